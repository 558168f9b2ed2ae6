/- Printed by a program of this session out of the translation: what these functions of the program compute, under the conditions that each theorem names. -/
import Derived.Test.YtjdannndpfkadaaKMergeRules1
import Derived.Test.YtjdannndpfkadaaKMergeRules3
import Derived.Test.YtjdannndpfkadaaKMergeRules4
import Derived.Test.YtjdannndpfkadaaKFspecMergeRules
import Derived.Test.YtjdannndpfkadaaKFimplMergeRules
namespace Go.Proofs.Ytjdannndpfkadaa.Pr
open Go.RowKit Go.Proofs.YtjdannndpfkadaaW.PrintWords Go.Proofs.YtjdannndpfkadaaW.PrintLast Go.Proofs.YtjdannndpfkadaaW.PrintMore
attribute [local go_sem] max2_int min2_int max_two min_two max_three min_three max_four min_four   -- for this text's walks alone
set_option linter.unusedVariables false
set_option linter.unusedSimpArgs false

/-! ### laws_FnExactMergeRules: function 5 -/
mutual
def laws_FnExactMergeRules.j0 : Nat → Int → Int → Int → Bool → Int → List Int → List Int → Int → List Int → List Int → Int → List Int → List Int → Int → List Int → List Int → Int → List Int → List Int → Int → List Int → List Int → Option (Bool)
 | 0,_,_,_,_,_,_,_,_,_,_,_,_,_,_,_,_,_,_,_,_,_,_=>none
 | k + 1,x2,x9,x13,x57,x506000,x506001,x506002,x507000,x507001,x507002,x532000,x532001,x532002,x540000,x540001,x540002,x548000,x548001,x548002,x557000,x557001,x557002=>if x57 = true then (some false) else ((laws_toRule.f k x506000 x506001 x506002).bind fun bt558=>((laws_eqRule.f k x540000 x540001 x540002 bt558.1 bt558.2.1 bt558.2.2).bind fun t565=>(if t565 = true then ((laws_toRule.f k x507000 x507001 x507002).bind fun bt566=>((laws_eqRule.f k x548000 x548001 x548002 bt566.1 bt566.2.1 bt566.2.2).bind fun t573=>(if t573 = true then ((laws_markRule.f k x540000 x540001 x540002 1).bind fun bt574=>((laws_markRule.f k x548000 x548001 x548002 bt574.1).bind fun bt577=>(if bt577.1 < 0 then (laws_FnExactMergeRules.j1 k x2 x9 true x506000 x506001 x506002 x507000 x507001 x507002 x532000 x532001 x532002 x557000 x557001 x557002) else ((laws_eqRule.f k x557000 x557001 x557002 x532000 x532001 x532002).bind fun t580=>(if t580 = true then (laws_FnExactMergeRules.j1 k x2 x9 (x13 != x9) x506000 x506001 x506002 x507000 x507001 x507002 x532000 x532001 x532002 x557000 x557001 x557002) else (laws_FnExactMergeRules.j1 k x2 x9 true x506000 x506001 x506002 x507000 x507001 x507002 x532000 x532001 x532002 x557000 x557001 x557002)))))) else (some false)))) else (some false))))
def laws_FnExactMergeRules.j1 : Nat → Int → Int → Bool → Int → List Int → List Int → Int → List Int → List Int → Int → List Int → List Int → Int → List Int → List Int → Option (Bool)
 | 0,_,_,_,_,_,_,_,_,_,_,_,_,_,_,_=>none
 | k + 1,x2,x9,x86,x506000,x506001,x506002,x507000,x507001,x507002,x532000,x532001,x532002,x557000,x557001,x557002=>if x86 = true then (some false) else ((laws_markRule.f k x557000 x557001 x557002 1).bind fun bt581=>((laws_heldRule.f k x557000 bt581.2.1 bt581.2.2 1).bind fun t584=>(if t584 < 0 then (some false) else (if t584 = bt581.1 then ((laws_toRule.f k x506000 x506001 x506002).bind fun bt585=>((laws_toRule.f k x507000 x507001 x507002).bind fun bt592=>((impl_MergeRules.f k bt585.1 bt585.2.1 bt585.2.2 bt592.1 bt592.2.1 bt592.2.2 x2).bind fun bt599=>((laws_eqRule.f k bt599.1 bt599.2.1 bt599.2.2.1 x532000 x532001 x532002).bind fun t608=>(if t608 = true then (laws_FnExactMergeRules.j2 k bt581.1 (bt599.2.2.2 != x9) x557000 bt581.2.1 bt581.2.2) else (laws_FnExactMergeRules.j2 k bt581.1 true x557000 bt581.2.1 bt581.2.2)))))) else (some false)))))
def laws_FnExactMergeRules.j2 : Nat → Int → Bool → Int → List Int → List Int → Option (Bool)
 | 0,_,_,_,_,_=>none
 | k + 1,x15,x115,x557000,x557001,x557002=>if x115 = true then (some false) else ((laws_heldRule.f k x557000 x557001 x557002 1).bind fun t609=>(if t609 < 0 then (some false) else (if t609 = x15 then (some true) else (some false))))
end
def laws_FnExactMergeRules.f (k : Nat) (a0_0 : Int) (l0_1 : List Int) (l0_2 : List Int) (a1_0 : Int) (l1_1 : List Int) (l1_2 : List Int) (a2 : Int) : Option (Bool):=(laws_szRule.f a0_0 l0_1 l0_2 1048576).bind fun t507=>(if t507 < 0 then (some true) else ((laws_szRule.f a1_0 l1_1 l1_2 t507).bind fun t508=>(if t508 < 0 then (some true) else ((laws_toRule.f k a0_0 l0_1 l0_2).bind fun bt509=>((laws_toRule.f k a1_0 l1_1 l1_2).bind fun bt516=>((spec_MergeRules.f k bt509.1 bt509.2.1 bt509.2.2 bt516.1 bt516.2.1 bt516.2.2 a2).bind fun bt523=>((laws_toRule.f k a0_0 l0_1 l0_2).bind fun bt532=>((laws_toRule.f k a1_0 l1_1 l1_2).bind fun bt540=>((impl_MergeRules.f k bt532.1 bt532.2.1 bt532.2.2 bt540.1 bt540.2.1 bt540.2.2 a2).bind fun bt548=>((laws_eqRule.f k bt548.1 bt548.2.1 bt548.2.2.1 bt523.1 bt523.2.1 bt523.2.2.1).bind fun t557=>(if t557 = true then (laws_FnExactMergeRules.j0 k a2 bt523.2.2.2 bt548.2.2.2 (bt548.2.2.2 != bt523.2.2.2) a0_0 l0_1 l0_2 a1_0 l1_1 l1_2 bt523.1 bt523.2.1 bt523.2.2.1 bt532.1 bt532.2.1 bt532.2.2 bt540.1 bt540.2.1 bt540.2.2 bt548.1 bt548.2.1 bt548.2.2.1) else (laws_FnExactMergeRules.j0 k a2 bt523.2.2.2 bt548.2.2.2 true a0_0 l0_1 l0_2 a1_0 l1_1 l1_2 bt523.1 bt523.2.1 bt523.2.2.1 bt532.1 bt532.2.1 bt532.2.2 bt540.1 bt540.2.1 bt540.2.2 bt548.1 bt548.2.1 bt548.2.2.1))))))))))))
def laws_FnExactMergeRules.T8 : Bool × List (List Nat × List Nat):=(true,[([],[]),([0],[0]),([],[]),([2,1],[2]),([],[]),([1,3,4,3],[1,3,4]),([5],[5]),([6],[6]),([6],[6]),([],[]),([9,7,5,0,1,2,3,4,5,6,7,9],[7,9]),([8,10,0,1,2,3,4,5,6,7,8,9,10],[8])])
def laws_FnExactMergeRules.B8 : List Nat:=[0,1,0,7,0,31,63,127,127,0,767,2047]
theorem laws_FnExactMergeRules.tab8 : rtab .any (opsOf Try.f5 8) = laws_FnExactMergeRules.T8:=by kernel_rfl
theorem laws_FnExactMergeRules.bits8 : waitsOk laws_FnExactMergeRules.T8.2 laws_FnExactMergeRules.B8 = true:=by kernel_rfl
def laws_FnExactMergeRules.T31 : Bool × List (List Nat × List Nat):=(true,[([],[]),([0],[0]),([],[]),([2,1],[2]),([],[]),([1,3,4,3],[1,3,4]),([5],[5]),([6],[6]),([6],[6]),([],[]),([9,7,5,0,1,2,3,4,5,6,7,9],[7,9]),([8,10,0,1,2,3,4,5,6,7,8,9,10],[8])])
def laws_FnExactMergeRules.B31 : List Nat:=[0,1,0,7,0,31,63,127,127,0,767,2047]
theorem laws_FnExactMergeRules.tab31 : rtab .any (opsOf Try.f5 31) = laws_FnExactMergeRules.T31:=by kernel_rfl
theorem laws_FnExactMergeRules.bits31 : waitsOk laws_FnExactMergeRules.T31.2 laws_FnExactMergeRules.B31 = true:=by kernel_rfl
set_option maxHeartbeats 8000000 in
set_option maxRecDepth 100000 in
theorem laws_FnExactMergeRules.calls (k : Nat) (a0_0 : Int) (A0_1 : Option Addr) (c0_1 : Nat) (l0_1 : List Int) (A0_2 : Option Addr) (c0_2 : Nat) (l0_2 : List Int) (a1_0 : Int) (A1_1 : Option Addr) (c1_1 : Nat) (l1_1 : List Int) (A1_2 : Option Addr) (c1_2 : Nat) (l1_2 : List Int) (a2 : Int) (r : Bool) (hr_ : r = true) (w : World) (hr0_1 : Kd.C (Kd.int .i64) w A0_1 l0_1.length l0_1) (hc0_1 : l0_1.length ≤ c0_1) (hr0_2 : Kd.C (Kd.int .i64) w A0_2 l0_2.length l0_2) (hc0_2 : l0_2.length ≤ c0_2) (hr1_1 : Kd.C (Kd.int .i64) w A1_1 l1_1.length l1_1) (hc1_1 : l1_1.length ≤ c1_1) (hr1_2 : Kd.C (Kd.int .i64) w A1_2 l1_2.length l1_2) (hc1_2 : l1_2.length ≤ c1_2) (h : laws_FnExactMergeRules.f k a0_0 l0_1 l0_2 a1_0 l1_1 l1_2 a2 = some r) :
  Calls Try.prog 5 #[.agg #[.int .i64 a0_0,.slice A0_1 l0_1.length c0_1,.slice A0_2 l0_2.length c0_2],.agg #[.int .i64 a1_0,.slice A1_1 l1_1.length c1_1,.slice A1_2 l1_2.length c1_2],.int .i64 a2] w fun e w'=>e = .returned (.bool r)∧Below w.heap.size w w':=by
 have hu49:=Try.underlying49
 have hu51:=Try.underlying51
 have HRT:=zA hr_
 clear hr_
 have HR0_1:=zA hr0_1
 have HC0_1:=zA hc0_1
 clear hr0_1 hc0_1
 have HR0_2:=zA hr0_2
 have HC0_2:=zA hc0_2
 clear hr0_2 hc0_2
 have HR1_1:=zA hr1_1
 have HC1_1:=zA hc1_1
 clear hr1_1 hc1_1
 have HR1_2:=zA hr1_2
 have HC1_2:=zA hc1_2
 clear hr1_2 hc1_2
 have HB:=zA (Below.refl w.heap.size w)
 have H : ((laws_szRule.f a0_0 l0_1 l0_2 1048576).bind fun t507=>(if t507 < 0 then (some true) else ((laws_szRule.f a1_0 l1_1 l1_2 t507).bind fun t508=>(if t508 < 0 then (some true) else ((laws_toRule.f k a0_0 l0_1 l0_2).bind fun bt509=>((laws_toRule.f k a1_0 l1_1 l1_2).bind fun bt516=>((spec_MergeRules.f k bt509.1 bt509.2.1 bt509.2.2 bt516.1 bt516.2.1 bt516.2.2 a2).bind fun bt523=>((laws_toRule.f k a0_0 l0_1 l0_2).bind fun bt532=>((laws_toRule.f k a1_0 l1_1 l1_2).bind fun bt540=>((impl_MergeRules.f k bt532.1 bt532.2.1 bt532.2.2 bt540.1 bt540.2.1 bt540.2.2 a2).bind fun bt548=>((laws_eqRule.f k bt548.1 bt548.2.1 bt548.2.2.1 bt523.1 bt523.2.1 bt523.2.2.1).bind fun t557=>(if t557 = true then (laws_FnExactMergeRules.j0 k a2 bt523.2.2.2 bt548.2.2.2 (bt548.2.2.2 != bt523.2.2.2) a0_0 l0_1 l0_2 a1_0 l1_1 l1_2 bt523.1 bt523.2.1 bt523.2.2.1 bt532.1 bt532.2.1 bt532.2.2 bt540.1 bt540.2.1 bt540.2.2 bt548.1 bt548.2.1 bt548.2.2.1) else (laws_FnExactMergeRules.j0 k a2 bt523.2.2.2 bt548.2.2.2 true a0_0 l0_1 l0_2 a1_0 l1_1 l1_2 bt523.1 bt523.2.1 bt523.2.2.1 bt532.1 bt532.2.1 bt532.2.2 bt540.1 bt540.2.1 bt540.2.2 bt548.1 bt548.2.1 bt548.2.2.1))))))))))))) = some r:=h
 clear h
 replace H:=Option.bind_eq_some_iff.mp H
 obtain ⟨t507,A40,H⟩:=H
 replace H : (if t507 < 0 then (some true) else ((laws_szRule.f a1_0 l1_1 l1_2 t507).bind fun t508=>(if t508 < 0 then (some true) else ((laws_toRule.f k a0_0 l0_1 l0_2).bind fun bt509=>((laws_toRule.f k a1_0 l1_1 l1_2).bind fun bt516=>((spec_MergeRules.f k bt509.1 bt509.2.1 bt509.2.2 bt516.1 bt516.2.1 bt516.2.2 a2).bind fun bt523=>((laws_toRule.f k a0_0 l0_1 l0_2).bind fun bt532=>((laws_toRule.f k a1_0 l1_1 l1_2).bind fun bt540=>((impl_MergeRules.f k bt532.1 bt532.2.1 bt532.2.2 bt540.1 bt540.2.1 bt540.2.2 a2).bind fun bt548=>((laws_eqRule.f k bt548.1 bt548.2.1 bt548.2.2.1 bt523.1 bt523.2.1 bt523.2.2.1).bind fun t557=>(if t557 = true then (laws_FnExactMergeRules.j0 k a2 bt523.2.2.2 bt548.2.2.2 (bt548.2.2.2 != bt523.2.2.2) a0_0 l0_1 l0_2 a1_0 l1_1 l1_2 bt523.1 bt523.2.1 bt523.2.2.1 bt532.1 bt532.2.1 bt532.2.2 bt540.1 bt540.2.1 bt540.2.2 bt548.1 bt548.2.1 bt548.2.2.1) else (laws_FnExactMergeRules.j0 k a2 bt523.2.2.2 bt548.2.2.2 true a0_0 l0_1 l0_2 a1_0 l1_1 l1_2 bt523.1 bt523.2.1 bt523.2.2.1 bt532.1 bt532.2.1 bt532.2.2 bt540.1 bt540.2.1 bt540.2.2 bt548.1 bt548.2.1 bt548.2.2.1)))))))))))) = some r:=H
 have A4:=zA A40
 clear A40
 by_cases c5 : t507 < 0
 rotate_left
 ·rw [if_neg c5] at H
  have c5b0 : decide (t507 < 0) = false:=decide_eq_false c5
  clear c5
  replace H:=Option.bind_eq_some_iff.mp H
  obtain ⟨t508,A110,H⟩:=H
  replace H : (if t508 < 0 then (some true) else ((laws_toRule.f k a0_0 l0_1 l0_2).bind fun bt509=>((laws_toRule.f k a1_0 l1_1 l1_2).bind fun bt516=>((spec_MergeRules.f k bt509.1 bt509.2.1 bt509.2.2 bt516.1 bt516.2.1 bt516.2.2 a2).bind fun bt523=>((laws_toRule.f k a0_0 l0_1 l0_2).bind fun bt532=>((laws_toRule.f k a1_0 l1_1 l1_2).bind fun bt540=>((impl_MergeRules.f k bt532.1 bt532.2.1 bt532.2.2 bt540.1 bt540.2.1 bt540.2.2 a2).bind fun bt548=>((laws_eqRule.f k bt548.1 bt548.2.1 bt548.2.2.1 bt523.1 bt523.2.1 bt523.2.2.1).bind fun t557=>(if t557 = true then (laws_FnExactMergeRules.j0 k a2 bt523.2.2.2 bt548.2.2.2 (bt548.2.2.2 != bt523.2.2.2) a0_0 l0_1 l0_2 a1_0 l1_1 l1_2 bt523.1 bt523.2.1 bt523.2.2.1 bt532.1 bt532.2.1 bt532.2.2 bt540.1 bt540.2.1 bt540.2.2 bt548.1 bt548.2.1 bt548.2.2.1) else (laws_FnExactMergeRules.j0 k a2 bt523.2.2.2 bt548.2.2.2 true a0_0 l0_1 l0_2 a1_0 l1_1 l1_2 bt523.1 bt523.2.1 bt523.2.2.1 bt532.1 bt532.2.1 bt532.2.2 bt540.1 bt540.2.1 bt540.2.2 bt548.1 bt548.2.1 bt548.2.2.1)))))))))) = some r:=H
  have A11:=zA A110
  clear A110
  by_cases c12 : t508 < 0
  rotate_left
  ·rw [if_neg c12] at H
   have c12b0 : decide (t508 < 0) = false:=decide_eq_false c12
   clear c12
   replace H:=Option.bind_eq_some_iff.mp H
   obtain ⟨⟨t509,t510,t513⟩,A200,H⟩:=H
   replace H : ((laws_toRule.f k a1_0 l1_1 l1_2).bind fun bt516=>((spec_MergeRules.f k t509 t510 t513 bt516.1 bt516.2.1 bt516.2.2 a2).bind fun bt523=>((laws_toRule.f k a0_0 l0_1 l0_2).bind fun bt532=>((laws_toRule.f k a1_0 l1_1 l1_2).bind fun bt540=>((impl_MergeRules.f k bt532.1 bt532.2.1 bt532.2.2 bt540.1 bt540.2.1 bt540.2.2 a2).bind fun bt548=>((laws_eqRule.f k bt548.1 bt548.2.1 bt548.2.2.1 bt523.1 bt523.2.1 bt523.2.2.1).bind fun t557=>(if t557 = true then (laws_FnExactMergeRules.j0 k a2 bt523.2.2.2 bt548.2.2.2 (bt548.2.2.2 != bt523.2.2.2) a0_0 l0_1 l0_2 a1_0 l1_1 l1_2 bt523.1 bt523.2.1 bt523.2.2.1 bt532.1 bt532.2.1 bt532.2.2 bt540.1 bt540.2.1 bt540.2.2 bt548.1 bt548.2.1 bt548.2.2.1) else (laws_FnExactMergeRules.j0 k a2 bt523.2.2.2 bt548.2.2.2 true a0_0 l0_1 l0_2 a1_0 l1_1 l1_2 bt523.1 bt523.2.1 bt523.2.2.1 bt532.1 bt532.2.1 bt532.2.2 bt540.1 bt540.2.1 bt540.2.2 bt548.1 bt548.2.1 bt548.2.2.1)))))))) = some r:=H
   have A20:=zA A200
   clear A200
   replace H:=Option.bind_eq_some_iff.mp H
   obtain ⟨⟨t516,t517,t520⟩,A210,H⟩:=H
   replace H : ((spec_MergeRules.f k t509 t510 t513 t516 t517 t520 a2).bind fun bt523=>((laws_toRule.f k a0_0 l0_1 l0_2).bind fun bt532=>((laws_toRule.f k a1_0 l1_1 l1_2).bind fun bt540=>((impl_MergeRules.f k bt532.1 bt532.2.1 bt532.2.2 bt540.1 bt540.2.1 bt540.2.2 a2).bind fun bt548=>((laws_eqRule.f k bt548.1 bt548.2.1 bt548.2.2.1 bt523.1 bt523.2.1 bt523.2.2.1).bind fun t557=>(if t557 = true then (laws_FnExactMergeRules.j0 k a2 bt523.2.2.2 bt548.2.2.2 (bt548.2.2.2 != bt523.2.2.2) a0_0 l0_1 l0_2 a1_0 l1_1 l1_2 bt523.1 bt523.2.1 bt523.2.2.1 bt532.1 bt532.2.1 bt532.2.2 bt540.1 bt540.2.1 bt540.2.2 bt548.1 bt548.2.1 bt548.2.2.1) else (laws_FnExactMergeRules.j0 k a2 bt523.2.2.2 bt548.2.2.2 true a0_0 l0_1 l0_2 a1_0 l1_1 l1_2 bt523.1 bt523.2.1 bt523.2.2.1 bt532.1 bt532.2.1 bt532.2.2 bt540.1 bt540.2.1 bt540.2.2 bt548.1 bt548.2.1 bt548.2.2.1))))))) = some r:=H
   have A21:=zA A210
   clear A210
   replace H:=Option.bind_eq_some_iff.mp H
   obtain ⟨⟨t523,t524,t527,t530⟩,A220,H⟩:=H
   replace H : ((laws_toRule.f k a0_0 l0_1 l0_2).bind fun bt532=>((laws_toRule.f k a1_0 l1_1 l1_2).bind fun bt540=>((impl_MergeRules.f k bt532.1 bt532.2.1 bt532.2.2 bt540.1 bt540.2.1 bt540.2.2 a2).bind fun bt548=>((laws_eqRule.f k bt548.1 bt548.2.1 bt548.2.2.1 t523 t524 t527).bind fun t557=>(if t557 = true then (laws_FnExactMergeRules.j0 k a2 t530 bt548.2.2.2 (bt548.2.2.2 != t530) a0_0 l0_1 l0_2 a1_0 l1_1 l1_2 t523 t524 t527 bt532.1 bt532.2.1 bt532.2.2 bt540.1 bt540.2.1 bt540.2.2 bt548.1 bt548.2.1 bt548.2.2.1) else (laws_FnExactMergeRules.j0 k a2 t530 bt548.2.2.2 true a0_0 l0_1 l0_2 a1_0 l1_1 l1_2 t523 t524 t527 bt532.1 bt532.2.1 bt532.2.2 bt540.1 bt540.2.1 bt540.2.2 bt548.1 bt548.2.1 bt548.2.2.1)))))) = some r:=H
   have A22:=zA A220
   clear A220
   replace H:=Option.bind_eq_some_iff.mp H
   obtain ⟨⟨t532,t533,t536⟩,A230,H⟩:=H
   replace H : ((laws_toRule.f k a1_0 l1_1 l1_2).bind fun bt540=>((impl_MergeRules.f k t532 t533 t536 bt540.1 bt540.2.1 bt540.2.2 a2).bind fun bt548=>((laws_eqRule.f k bt548.1 bt548.2.1 bt548.2.2.1 t523 t524 t527).bind fun t557=>(if t557 = true then (laws_FnExactMergeRules.j0 k a2 t530 bt548.2.2.2 (bt548.2.2.2 != t530) a0_0 l0_1 l0_2 a1_0 l1_1 l1_2 t523 t524 t527 t532 t533 t536 bt540.1 bt540.2.1 bt540.2.2 bt548.1 bt548.2.1 bt548.2.2.1) else (laws_FnExactMergeRules.j0 k a2 t530 bt548.2.2.2 true a0_0 l0_1 l0_2 a1_0 l1_1 l1_2 t523 t524 t527 t532 t533 t536 bt540.1 bt540.2.1 bt540.2.2 bt548.1 bt548.2.1 bt548.2.2.1))))) = some r:=H
   have A23:=zA A230
   clear A230
   replace H:=Option.bind_eq_some_iff.mp H
   obtain ⟨⟨t540,t541,t544⟩,A240,H⟩:=H
   replace H : ((impl_MergeRules.f k t532 t533 t536 t540 t541 t544 a2).bind fun bt548=>((laws_eqRule.f k bt548.1 bt548.2.1 bt548.2.2.1 t523 t524 t527).bind fun t557=>(if t557 = true then (laws_FnExactMergeRules.j0 k a2 t530 bt548.2.2.2 (bt548.2.2.2 != t530) a0_0 l0_1 l0_2 a1_0 l1_1 l1_2 t523 t524 t527 t532 t533 t536 t540 t541 t544 bt548.1 bt548.2.1 bt548.2.2.1) else (laws_FnExactMergeRules.j0 k a2 t530 bt548.2.2.2 true a0_0 l0_1 l0_2 a1_0 l1_1 l1_2 t523 t524 t527 t532 t533 t536 t540 t541 t544 bt548.1 bt548.2.1 bt548.2.2.1)))) = some r:=H
   have A24:=zA A240
   clear A240
   replace H:=Option.bind_eq_some_iff.mp H
   obtain ⟨⟨t548,t549,t552,t555⟩,A250,H⟩:=H
   replace H : ((laws_eqRule.f k t548 t549 t552 t523 t524 t527).bind fun t557=>(if t557 = true then (laws_FnExactMergeRules.j0 k a2 t530 t555 (t555 != t530) a0_0 l0_1 l0_2 a1_0 l1_1 l1_2 t523 t524 t527 t532 t533 t536 t540 t541 t544 t548 t549 t552) else (laws_FnExactMergeRules.j0 k a2 t530 t555 true a0_0 l0_1 l0_2 a1_0 l1_1 l1_2 t523 t524 t527 t532 t533 t536 t540 t541 t544 t548 t549 t552))) = some r:=H
   have A25:=zA A250
   clear A250
   have HC26:=zA H
   clear H
   go_enter Try.func5,Try.ntmps5
   try go_wp2_with (first | ((with_reducible refine gate_dst (N:=3) rfl ?_);refine bx 3 #[.int .i64 a0_0,.slice A0_1 l0_1.length c0_1,.slice A0_2 l0_2.length c0_2] 49 ?_;intro gb505 hg w27 hbox hb;have BK505:=zA (hbox);have GW505:=gq HB hg;have GE505:=gq HB hg;replace HB:=xH HB hb;have:=geI GE505;clear hb hbox hg) | ((with_reducible refine gate_dst (N:=4) rfl ?_);refine bx 4 #[.int .i64 a1_0,.slice A1_1 l1_1.length c1_1,.slice A1_2 l1_2.length c1_2] 49 ?_;intro gb506 hg w28 hbox hb;have BK506:=zA (hbox);have GW506:=gq HB hg;have GE506:=gq HB hg;replace HB:=xH HB hb;have NB505_506:=zA ((by rw [hg];exact neL BK505 : gb505 ≠ gb506));have NB506_505:=zA ((by rw [hg];exact neG BK505 : gb506 ≠ gb505));replace BK505:=xB BK505 hb;have:=geI GE506;clear hb hbox hg;have hnb29:=NB505_506.out;have hnc29:=NB506_505.out;have hcz30_0:=bc BK505 0;have hcz30_1:=bc BK505 1;have hcz30_2:=bc BK505 2;have hfz30_0:=bf BK505 0;have hfz30_1:=bf BK505 1;have hfz30_2:=bf BK505 2) | ((with_reducible refine gate_callee (f:=25) rfl ?_);refine gL (some 21) Try.func25 #[.agg #[.int .i64 a0_0,.slice A0_1 l0_1.length c0_1,.slice A0_2 l0_2.length c0_2],.int .i64 1048576] ?_;(with_reducible refine (laws_szRule.calls a0_0 _ _ l0_1 _ _ l0_2 1048576 t507 _ ?side1 ?side2 ?side3 ?side4 A4.out).mono ?_);(case side1=>exact uC ((Kd.C_below HR0_1.out HB.out)));(case side2=>exact HC0_1.out);(case side3=>exact uC ((Kd.C_below HR0_2.out HB.out)));(case side4=>exact HC0_2.out);rintro e w31 ⟨rfl,hb⟩;refine ⟨_,rfl,?_⟩;replace BK505:=xB BK505 hb;replace BK506:=xB BK506 hb;replace HB:=xH HB hb;(try clear hb);have hcz32_0:=bc BK506 0;have hcz32_1:=bc BK506 1;have hcz32_2:=bc BK506 2;have hfz32_0:=bf BK506 0;have hfz32_1:=bf BK506 1;have hfz32_2:=bf BK506 2) | ((with_reducible refine gate_callee (f:=25) rfl ?_);refine gL (some 26) Try.func25 #[.agg #[.int .i64 a1_0,.slice A1_1 l1_1.length c1_1,.slice A1_2 l1_2.length c1_2],.int .i64 t507] ?_;(with_reducible refine (laws_szRule.calls a1_0 _ _ l1_1 _ _ l1_2 t507 t508 _ ?side1 ?side2 ?side3 ?side4 A11.out).mono ?_);(case side1=>exact uC ((Kd.C_below HR1_1.out HB.out)));(case side2=>exact HC1_1.out);(case side3=>exact uC ((Kd.C_below HR1_2.out HB.out)));(case side4=>exact HC1_2.out);rintro e w33 ⟨rfl,hb⟩;refine ⟨_,rfl,?_⟩;replace BK505:=xB BK505 hb;replace BK506:=xB BK506 hb;replace HB:=xH HB hb;(try clear hb)))
   replace BK505:=zA (blk_drew BK505.out)
   replace BK506:=zA (blk_drew BK506.out)
   replace HB:=zA (below_drew1 HB.out)
   refine start_ (n:=12) (S:=fun w'=>w'.cell? ⟨gb505,0,none⟩ = some (.int .i64 a0_0)∧w'.cell? ⟨gb505,1,none⟩ = some (.slice A0_1 l0_1.length c0_1)∧w'.cell? ⟨gb505,2,none⟩ = some (.slice A0_2 l0_2.length c0_2)∧w'.cell? ⟨gb506,0,none⟩ = some (.int .i64 a1_0)∧w'.cell? ⟨gb506,1,none⟩ = some (.slice A1_1 l1_1.length c1_1)∧w'.cell? ⟨gb506,2,none⟩ = some (.slice A1_2 l1_2.length c1_2)) (ds:=[]) #[false,false,false,false,false,false,false,false,false,false,false,false] (by kernel_rfl) rfl rfl ⟨bcu BK505 0,bcu BK505 1,bcu BK505 2,bcu BK506 0,bcu BK506 1,bcu BK506 2⟩ (fun hHeld=>?_);refine with_tabW laws_FnExactMergeRules.tab8 laws_FnExactMergeRules.bits8 (fun HT_ HW_=>?_)
   generalize w33.drew = w34 at BK505 BK506 HB hHeld ⊢
   refine pu_ 4 34 (bl 12 16) HT_ ?_
   refine ta_ 0 30 (bl 12 17) HT_ HW_ hHeld ?_
   refine ta_ 2 32 (bl 12 21) HT_ HW_ hHeld ?_
   refine join_ (σ:=Value × Value × Value × Value × Value × Value × Nat) 2 (bl 12 1023) (fun s_=>[(31,.agg #[.int .i64 t509,s_.1,s_.2.1]),(33,.agg #[.int .i64 t516,s_.2.2.1,s_.2.2.2.1]),(35,.tuple #[.agg #[.int .i64 t523,s_.2.2.2.2.1,s_.2.2.2.2.2.1],.int .i64 t530]),(8,.pointer (some ⟨s_.2.2.2.2.2.2,0,none⟩)),(29,.tuple #[.agg #[.int .i64 t523,s_.2.2.2.2.1,s_.2.2.2.2.2.1],.int .i64 t530]),(36,.agg #[.int .i64 t523,s_.2.2.2.2.1,s_.2.2.2.2.2.1]),(37,.int .i64 t530)]) (fun s_ w'=>(w'.cell? ⟨gb505,0,none⟩ = some (.int .i64 a0_0)∧w'.cell? ⟨gb505,1,none⟩ = some (.slice A0_1 l0_1.length c0_1)∧w'.cell? ⟨gb505,2,none⟩ = some (.slice A0_2 l0_2.length c0_2)∧w'.cell? ⟨gb506,0,none⟩ = some (.int .i64 a1_0)∧w'.cell? ⟨gb506,1,none⟩ = some (.slice A1_1 l1_1.length c1_1)∧w'.cell? ⟨gb506,2,none⟩ = some (.slice A1_2 l1_2.length c1_2))∧(Kd.R (Kd.int .i64) 2 w' w.heap.size (fun k_=>ax k_ s_.2.1∧ax k_ s_.2.2.1∧ax k_ s_.2.2.2.1∧ax k_ s_.2.2.2.2.1∧ax k_ s_.2.2.2.2.2.1) s_.1 t510)∧(Kd.R (Kd.int .i64) 2 w' w.heap.size (fun k_=>ax k_ s_.1∧ax k_ s_.2.2.1∧ax k_ s_.2.2.2.1∧ax k_ s_.2.2.2.2.1∧ax k_ s_.2.2.2.2.2.1) s_.2.1 t513)∧(Kd.R (Kd.int .i64) 2 w' w.heap.size (fun k_=>ax k_ s_.1∧ax k_ s_.2.1∧ax k_ s_.2.2.2.1∧ax k_ s_.2.2.2.2.1∧ax k_ s_.2.2.2.2.2.1) s_.2.2.1 t517)∧(Kd.R (Kd.int .i64) 2 w' w.heap.size (fun k_=>ax k_ s_.1∧ax k_ s_.2.1∧ax k_ s_.2.2.1∧ax k_ s_.2.2.2.2.1∧ax k_ s_.2.2.2.2.2.1) s_.2.2.2.1 t520)∧(Kd.R (Kd.int .i64) 2 w' w.heap.size (fun k_=>ax k_ s_.1∧ax k_ s_.2.1∧ax k_ s_.2.2.1∧ax k_ s_.2.2.2.1∧ax k_ s_.2.2.2.2.2.1) s_.2.2.2.2.1 t524)∧(Kd.R (Kd.int .i64) 2 w' w.heap.size (fun k_=>ax k_ s_.1∧ax k_ s_.2.1∧ax k_ s_.2.2.1∧ax k_ s_.2.2.2.1∧ax k_ s_.2.2.2.2.1) s_.2.2.2.2.2.1 t527)∧(w'.heap[gb505]? = some (.cells #[.int .i64 a0_0,.slice A0_1 l0_1.length c0_1,.slice A0_2 l0_2.length c0_2] 49 (0,0)))∧(w'.heap[gb506]? = some (.cells #[.int .i64 a1_0,.slice A1_1 l1_1.length c1_1,.slice A1_2 l1_2.length c1_2] 49 (0,0)))∧(w'.heap[s_.2.2.2.2.2.2]? = some (.cells #[.int .i64 0,.slice none 0 0,.slice none 0 0] 51 (0,0)))∧(w.heap.size ≤ s_.2.2.2.2.2.2)∧(w.heap.size ≤ s_.2.2.2.2.2.2)∧(gb505 ≠ s_.2.2.2.2.2.2)∧(s_.2.2.2.2.2.2 ≠ gb505)∧(gb506 ≠ s_.2.2.2.2.2.2)∧(s_.2.2.2.2.2.2 ≠ gb506)∧(Below w.heap.size w w')) ?_ ?_
   rotate_left
   ·intro hCont
    refine two_ (i:=1) (j:=9) (Ni:=some 31) (Nj:=some 8) (bl 12 23) (bl 12 533) rfl rfl rfl rfl (two_of HT_.out (by kernel_rfl)) (by decide) (by decide) (fun K hK=>?_) (fun K hK=>?_)
    ·skip
     refine gS Try.func27 #[.agg #[.int .i64 a0_0,.slice A0_1 l0_1.length c0_1,.slice A0_2 l0_2.length c0_2]] ?_
     with_reducible refine (laws_toRule.calls k a0_0 _ _ l0_1 _ _ l0_2 t509 t510 t513 _ ?side1 ?side2 ?side3 ?side4 A20.out).mono ?_
     (case side1=>exact uC ((Kd.C_below HR0_1.out HB.out)))
     (case side2=>exact HC0_1.out)
     (case side3=>exact uC ((Kd.C_below HR0_2.out HB.out)))
     (case side4=>exact HC0_2.out)
     rintro e w35 ⟨v511,v514,rfl,ho0,ho1,hb⟩
     refine ⟨_,rfl,?_⟩
     have HO512:=zA (Kd.R_lower ho0 (below_size (uH HB.out)))
     have HO515:=zA (Kd.R_lower ho1 (below_size (uH HB.out)))
     replace BK505:=xB BK505 hb
     replace BK506:=xB BK506 hb
     replace HB:=xH HB hb
     (try clear hb);(try clear ho0);(try clear ho1)
     refine hK.out _ _ ⟨bcu BK505 0,bcu BK505 1,bcu BK505 2,bcu BK506 0,bcu BK506 1,bcu BK506 2⟩ (fun hHeld=>?_)
     clear hK K
     refine no_ 31 ?_
     refine two_ (i:=3) (j:=9) (Ni:=some 33) (Nj:=some 8) (bl 12 31) (bl 12 535) rfl rfl rfl rfl (two_of HT_.out (by kernel_rfl)) (by decide) (by decide) (fun K hK=>?_) (fun K hK=>?_)
     ·skip
      refine gS Try.func27 #[.agg #[.int .i64 a1_0,.slice A1_1 l1_1.length c1_1,.slice A1_2 l1_2.length c1_2]] ?_
      with_reducible refine (laws_toRule.calls k a1_0 _ _ l1_1 _ _ l1_2 t516 t517 t520 _ ?side1 ?side2 ?side3 ?side4 A21.out).mono ?_
      (case side1=>exact uC ((Kd.C_below HR1_1.out HB.out)))
      (case side2=>exact HC1_1.out)
      (case side3=>exact uC ((Kd.C_below HR1_2.out HB.out)))
      (case side4=>exact HC1_2.out)
      rintro e w36 ⟨v518,v521,rfl,ho0,ho1,hb⟩
      refine ⟨_,rfl,?_⟩
      have HO519:=zA (Kd.R_lower (nw (nw ho0 (uR HO512.out)) (uR HO515.out)) (below_size (uH HB.out)))
      have HO522:=zA (Kd.R_lower (nw (nw ho1 (uR HO512.out)) (uR HO515.out)) (below_size (uH HB.out)))
      replace HO512:=td2 (uR HO512.out) hb ho0 ho1
      replace HO515:=td2 (uR HO515.out) hb ho0 ho1
      replace BK505:=xB BK505 hb
      replace BK506:=xB BK506 hb
      replace HB:=xH HB hb
      (try clear hb);(try clear ho0);(try clear ho1)
      obtain ⟨Ao37,co37,eo37⟩:=Kd.R_slice HO512.out
      (first | subst eo37 | (injection eo37 with f1_ f2_ f3_;have f4_:=f1_.symm;have f5_:=f3_.symm;clear f1_ f2_ f3_;subst f4_;subst f5_))
      obtain ⟨Ao38,co38,eo38⟩:=Kd.R_slice HO515.out
      (first | subst eo38 | (injection eo38 with f1_ f2_ f3_;have f4_:=f1_.symm;have f5_:=f3_.symm;clear f1_ f2_ f3_;subst f4_;subst f5_))
      obtain ⟨Ao39,co39,eo39⟩:=Kd.R_slice HO519.out
      (first | subst eo39 | (injection eo39 with f1_ f2_ f3_;have f4_:=f1_.symm;have f5_:=f3_.symm;clear f1_ f2_ f3_;subst f4_;subst f5_))
      obtain ⟨Ao40,co40,eo40⟩:=Kd.R_slice HO522.out
      (first | subst eo40 | (injection eo40 with f1_ f2_ f3_;have f4_:=f1_.symm;have f5_:=f3_.symm;clear f1_ f2_ f3_;subst f4_;subst f5_))
      refine hK.out _ _ ⟨bcu BK505 0,bcu BK505 1,bcu BK505 2,bcu BK506 0,bcu BK506 1,bcu BK506 2⟩ (fun hHeld=>?_)
      clear hK K
      refine no_ 33 ?_
      refine two_ (i:=5) (j:=9) (Ni:=some 35) (Nj:=some 8) (bl 12 63) (bl 12 543) rfl rfl rfl rfl (two_of HT_.out (by kernel_rfl)) (by decide) (by decide) (fun K hK=>?_) (fun K hK=>?_)
      ·skip
       refine gS Try.func26 #[.agg #[.int .i64 t509,.slice Ao37 t510.length co37,.slice Ao38 t513.length co38],.agg #[.int .i64 t516,.slice Ao39 t517.length co39,.slice Ao40 t520.length co40],.int .i64 a2] ?_
       with_reducible refine (spec_MergeRules.calls k t509 _ _ t510 _ _ t513 t516 _ _ t517 _ _ t520 a2 t523 t524 t527 t530 _ ?side1 ?side2 ?side3 ?side4 ?side5 ?side6 ?side7 ?side8 A22.out).mono ?_
       (case side1=>exact uC ((Kd.R_reads' HO512.out).2.2))
       (case side2=>exact (Kd.R_reads' HO512.out).2.1)
       (case side3=>exact uC ((Kd.R_reads' HO515.out).2.2))
       (case side4=>exact (Kd.R_reads' HO515.out).2.1)
       (case side5=>exact uC ((Kd.R_reads' HO519.out).2.2))
       (case side6=>exact (Kd.R_reads' HO519.out).2.1)
       (case side7=>exact uC ((Kd.R_reads' HO522.out).2.2))
       (case side8=>exact (Kd.R_reads' HO522.out).2.1)
       rintro e w41 ⟨v525,v528,rfl,ho0,ho1,hb⟩
       refine ⟨_,rfl,?_⟩
       have HO526:=zA (Kd.R_lower (nw (nw (nw (nw ho0 (uR HO512.out)) (uR HO515.out)) (uR HO519.out)) (uR HO522.out)) (below_size (uH HB.out)))
       have HO529:=zA (Kd.R_lower (nw (nw (nw (nw ho1 (uR HO512.out)) (uR HO515.out)) (uR HO519.out)) (uR HO522.out)) (below_size (uH HB.out)))
       replace HO512:=td2 (uR HO512.out) hb ho0 ho1
       replace HO515:=td2 (uR HO515.out) hb ho0 ho1
       replace HO519:=td2 (uR HO519.out) hb ho0 ho1
       replace HO522:=td2 (uR HO522.out) hb ho0 ho1
       replace BK505:=xB BK505 hb
       replace BK506:=xB BK506 hb
       replace HB:=xH HB hb
       (try clear hb);(try clear ho0);(try clear ho1)
       refine hK.out _ _ ⟨bcu BK505 0,bcu BK505 1,bcu BK505 2,bcu BK506 0,bcu BK506 1,bcu BK506 2⟩ (fun hHeld=>?_)
       clear hK K
       refine no_ 35 ?_
       refine pu_ 6 29 (bl 12 127) HT_ ?_
       refine pu_ 7 36 (bl 12 255) HT_ ?_
       refine pu_ 8 37 (bl 12 511) HT_ ?_
       refine on_ 9 (some 8) (bl 12 1023) HT_ (fun K hK=>?_)
       refine box_step ?hg (N:=8) ?hd (cs:=#[.int .i64 0,.slice none 0 0,.slice none 0 0]) (t:=51) ?hr ?_;(case hd=>rfl);(case hg=>rfl);(case hr=>first | (go_simp;done) | (go_simp;rfl))
       intro gb531 hg w42 hbox hb
       replace HO512:=xR HO512 hb
       replace HO515:=xR HO515 hb
       replace HO519:=xR HO519 hb
       replace HO522:=xR HO522 hb
       replace HO526:=xR HO526 hb
       replace HO529:=xR HO529 hb
       have BK531:=zA (hbox)
       have GW531:=gq HB hg
       have GE531:=gq HB hg
       replace HB:=xH HB hb
       have NB505_531:=zA ((by rw [hg];exact neL BK505 : gb505 ≠ gb531))
       have NB531_505:=zA ((by rw [hg];exact neG BK505 : gb531 ≠ gb505))
       replace BK505:=xB BK505 hb
       have NB506_531:=zA ((by rw [hg];exact neL BK506 : gb506 ≠ gb531))
       have NB531_506:=zA ((by rw [hg];exact neG BK506 : gb531 ≠ gb506))
       replace BK506:=xB BK506 hb
       have:=geI GE531
       clear hb hbox hg
       refine hK.out _ _ ⟨bcu BK505 0,bcu BK505 1,bcu BK505 2,bcu BK506 0,bcu BK506 1,bcu BK506 2⟩ (fun hHeld=>?_)
       clear hK K
       refine no_ 8 ?_
       exact norm_ (by simp only [putAll,Act.put,ls,lz,ln]) (hCont (.slice Ao37 t510.length co37,.slice Ao38 t513.length co38,.slice Ao39 t517.length co39,.slice Ao40 t520.length co40,v525,v528,gb531) _ ⟨hHeld,(uR (Kd.R_mono HO512.out (fun _ ⟨⟨⟨⟨a,b⟩,c⟩,d⟩,f⟩=>⟨a,b,c,d,f⟩))),(uR (Kd.R_mono HO515.out (fun _ ⟨⟨⟨⟨a,b⟩,c⟩,d⟩,f⟩=>⟨a,b,c,d,f⟩))),(uR (Kd.R_mono HO519.out (fun _ ⟨⟨⟨⟨c,a⟩,b⟩,d⟩,f⟩=>⟨a,b,c,d,f⟩))),(uR (Kd.R_mono HO522.out (fun _ ⟨⟨⟨⟨c,a⟩,b⟩,d⟩,f⟩=>⟨a,b,c,d,f⟩))),(uR (Kd.R_mono HO526.out (fun _ ⟨⟨⟨⟨f,a⟩,b⟩,c⟩,d⟩=>⟨a,b,c,d,f⟩))),(uR (Kd.R_mono HO529.out (fun _ ⟨⟨⟨⟨f,a⟩,b⟩,c⟩,d⟩=>⟨a,b,c,d,f⟩))),(uB BK505.out),(uB BK506.out),(uB BK531.out),GW531.out,GE531.out,NB505_531.out,NB531_505.out,NB506_531.out,NB531_506.out,(uH HB.out)⟩)
      ·skip
       refine box_step ?hg (N:=8) ?hd (cs:=#[.int .i64 0,.slice none 0 0,.slice none 0 0]) (t:=51) ?hr ?_;(case hd=>rfl);(case hg=>rfl);(case hr=>first | (go_simp;done) | (go_simp;rfl))
       intro gb531 hg w37 hbox hb
       replace HO512:=xR HO512 hb
       replace HO515:=xR HO515 hb
       replace HO519:=xR HO519 hb
       replace HO522:=xR HO522 hb
       have BK531:=zA (hbox)
       have GW531:=gq HB hg
       have GE531:=gq HB hg
       replace HB:=xH HB hb
       have NB505_531:=zA ((by rw [hg];exact neL BK505 : gb505 ≠ gb531))
       have NB531_505:=zA ((by rw [hg];exact neG BK505 : gb531 ≠ gb505))
       replace BK505:=xB BK505 hb
       have NB506_531:=zA ((by rw [hg];exact neL BK506 : gb506 ≠ gb531))
       have NB531_506:=zA ((by rw [hg];exact neG BK506 : gb531 ≠ gb506))
       replace BK506:=xB BK506 hb
       have:=geI GE531
       clear hb hbox hg
       obtain ⟨Ao38,co38,eo38⟩:=Kd.R_slice HO512.out
       (first | subst eo38 | (injection eo38 with f1_ f2_ f3_;have f4_:=f1_.symm;have f5_:=f3_.symm;clear f1_ f2_ f3_;subst f4_;subst f5_))
       obtain ⟨Ao39,co39,eo39⟩:=Kd.R_slice HO515.out
       (first | subst eo39 | (injection eo39 with f1_ f2_ f3_;have f4_:=f1_.symm;have f5_:=f3_.symm;clear f1_ f2_ f3_;subst f4_;subst f5_))
       obtain ⟨Ao40,co40,eo40⟩:=Kd.R_slice HO519.out
       (first | subst eo40 | (injection eo40 with f1_ f2_ f3_;have f4_:=f1_.symm;have f5_:=f3_.symm;clear f1_ f2_ f3_;subst f4_;subst f5_))
       obtain ⟨Ao41,co41,eo41⟩:=Kd.R_slice HO522.out
       (first | subst eo41 | (injection eo41 with f1_ f2_ f3_;have f4_:=f1_.symm;have f5_:=f3_.symm;clear f1_ f2_ f3_;subst f4_;subst f5_))
       refine hK.out _ _ ⟨bcu BK505 0,bcu BK505 1,bcu BK505 2,bcu BK506 0,bcu BK506 1,bcu BK506 2⟩ (fun hHeld=>?_)
       clear hK K
       refine no_ 8 ?_
       refine on_ 5 (some 35) (bl 12 575) HT_ (fun K hK=>?_)
       refine gS Try.func26 #[.agg #[.int .i64 t509,.slice Ao38 t510.length co38,.slice Ao39 t513.length co39],.agg #[.int .i64 t516,.slice Ao40 t517.length co40,.slice Ao41 t520.length co41],.int .i64 a2] ?_
       with_reducible refine (spec_MergeRules.calls k t509 _ _ t510 _ _ t513 t516 _ _ t517 _ _ t520 a2 t523 t524 t527 t530 _ ?side1 ?side2 ?side3 ?side4 ?side5 ?side6 ?side7 ?side8 A22.out).mono ?_
       (case side1=>exact uC ((Kd.R_reads' HO512.out).2.2))
       (case side2=>exact (Kd.R_reads' HO512.out).2.1)
       (case side3=>exact uC ((Kd.R_reads' HO515.out).2.2))
       (case side4=>exact (Kd.R_reads' HO515.out).2.1)
       (case side5=>exact uC ((Kd.R_reads' HO519.out).2.2))
       (case side6=>exact (Kd.R_reads' HO519.out).2.1)
       (case side7=>exact uC ((Kd.R_reads' HO522.out).2.2))
       (case side8=>exact (Kd.R_reads' HO522.out).2.1)
       rintro e w42 ⟨v525,v528,rfl,ho0,ho1,hb⟩
       refine ⟨_,rfl,?_⟩
       have HO526:=zA (Kd.R_lower (nw (nw (nw (nw ho0 (uR HO512.out)) (uR HO515.out)) (uR HO519.out)) (uR HO522.out)) (below_size (uH HB.out)))
       have HO529:=zA (Kd.R_lower (nw (nw (nw (nw ho1 (uR HO512.out)) (uR HO515.out)) (uR HO519.out)) (uR HO522.out)) (below_size (uH HB.out)))
       replace HO512:=td2 (uR HO512.out) hb ho0 ho1
       replace HO515:=td2 (uR HO515.out) hb ho0 ho1
       replace HO519:=td2 (uR HO519.out) hb ho0 ho1
       replace HO522:=td2 (uR HO522.out) hb ho0 ho1
       replace BK505:=xB BK505 hb
       replace BK506:=xB BK506 hb
       replace BK531:=xB BK531 hb
       replace HB:=xH HB hb
       (try clear hb);(try clear ho0);(try clear ho1)
       refine hK.out _ _ ⟨bcu BK505 0,bcu BK505 1,bcu BK505 2,bcu BK506 0,bcu BK506 1,bcu BK506 2⟩ (fun hHeld=>?_)
       clear hK K
       refine no_ 35 ?_
       refine pu_ 6 29 (bl 12 639) HT_ ?_
       refine pu_ 7 36 (bl 12 767) HT_ ?_
       refine pu_ 8 37 (bl 12 1023) HT_ ?_
       exact norm_ (by simp only [putAll,Act.put,ls,lz,ln]) (hCont (.slice Ao38 t510.length co38,.slice Ao39 t513.length co39,.slice Ao40 t517.length co40,.slice Ao41 t520.length co41,v525,v528,gb531) _ ⟨hHeld,(uR (Kd.R_mono HO512.out (fun _ ⟨⟨⟨⟨a,b⟩,c⟩,d⟩,f⟩=>⟨a,b,c,d,f⟩))),(uR (Kd.R_mono HO515.out (fun _ ⟨⟨⟨⟨a,b⟩,c⟩,d⟩,f⟩=>⟨a,b,c,d,f⟩))),(uR (Kd.R_mono HO519.out (fun _ ⟨⟨⟨⟨c,a⟩,b⟩,d⟩,f⟩=>⟨a,b,c,d,f⟩))),(uR (Kd.R_mono HO522.out (fun _ ⟨⟨⟨⟨c,a⟩,b⟩,d⟩,f⟩=>⟨a,b,c,d,f⟩))),(uR (Kd.R_mono HO526.out (fun _ ⟨⟨⟨⟨f,a⟩,b⟩,c⟩,d⟩=>⟨a,b,c,d,f⟩))),(uR (Kd.R_mono HO529.out (fun _ ⟨⟨⟨⟨f,a⟩,b⟩,c⟩,d⟩=>⟨a,b,c,d,f⟩))),(uB BK505.out),(uB BK506.out),(uB BK531.out),GW531.out,GE531.out,NB505_531.out,NB531_505.out,NB506_531.out,NB531_506.out,(uH HB.out)⟩)
     ·skip
      refine box_step ?hg (N:=8) ?hd (cs:=#[.int .i64 0,.slice none 0 0,.slice none 0 0]) (t:=51) ?hr ?_;(case hd=>rfl);(case hg=>rfl);(case hr=>first | (go_simp;done) | (go_simp;rfl))
      intro gb531 hg w36 hbox hb
      replace HO512:=xR HO512 hb
      replace HO515:=xR HO515 hb
      have BK531:=zA (hbox)
      have GW531:=gq HB hg
      have GE531:=gq HB hg
      replace HB:=xH HB hb
      have NB505_531:=zA ((by rw [hg];exact neL BK505 : gb505 ≠ gb531))
      have NB531_505:=zA ((by rw [hg];exact neG BK505 : gb531 ≠ gb505))
      replace BK505:=xB BK505 hb
      have NB506_531:=zA ((by rw [hg];exact neL BK506 : gb506 ≠ gb531))
      have NB531_506:=zA ((by rw [hg];exact neG BK506 : gb531 ≠ gb506))
      replace BK506:=xB BK506 hb
      have:=geI GE531
      clear hb hbox hg
      refine hK.out _ _ ⟨bcu BK505 0,bcu BK505 1,bcu BK505 2,bcu BK506 0,bcu BK506 1,bcu BK506 2⟩ (fun hHeld=>?_)
      clear hK K
      refine no_ 8 ?_
      refine on_ 3 (some 33) (bl 12 543) HT_ (fun K hK=>?_)
      refine gS Try.func27 #[.agg #[.int .i64 a1_0,.slice A1_1 l1_1.length c1_1,.slice A1_2 l1_2.length c1_2]] ?_
      with_reducible refine (laws_toRule.calls k a1_0 _ _ l1_1 _ _ l1_2 t516 t517 t520 _ ?side1 ?side2 ?side3 ?side4 A21.out).mono ?_
      (case side1=>exact uC ((Kd.C_below HR1_1.out HB.out)))
      (case side2=>exact HC1_1.out)
      (case side3=>exact uC ((Kd.C_below HR1_2.out HB.out)))
      (case side4=>exact HC1_2.out)
      rintro e w37 ⟨v518,v521,rfl,ho0,ho1,hb⟩
      refine ⟨_,rfl,?_⟩
      have HO519:=zA (Kd.R_lower (nw (nw ho0 (uR HO512.out)) (uR HO515.out)) (below_size (uH HB.out)))
      have HO522:=zA (Kd.R_lower (nw (nw ho1 (uR HO512.out)) (uR HO515.out)) (below_size (uH HB.out)))
      replace HO512:=td2 (uR HO512.out) hb ho0 ho1
      replace HO515:=td2 (uR HO515.out) hb ho0 ho1
      replace BK505:=xB BK505 hb
      replace BK506:=xB BK506 hb
      replace BK531:=xB BK531 hb
      replace HB:=xH HB hb
      (try clear hb);(try clear ho0);(try clear ho1)
      obtain ⟨Ao38,co38,eo38⟩:=Kd.R_slice HO512.out
      (first | subst eo38 | (injection eo38 with f1_ f2_ f3_;have f4_:=f1_.symm;have f5_:=f3_.symm;clear f1_ f2_ f3_;subst f4_;subst f5_))
      obtain ⟨Ao39,co39,eo39⟩:=Kd.R_slice HO515.out
      (first | subst eo39 | (injection eo39 with f1_ f2_ f3_;have f4_:=f1_.symm;have f5_:=f3_.symm;clear f1_ f2_ f3_;subst f4_;subst f5_))
      obtain ⟨Ao40,co40,eo40⟩:=Kd.R_slice HO519.out
      (first | subst eo40 | (injection eo40 with f1_ f2_ f3_;have f4_:=f1_.symm;have f5_:=f3_.symm;clear f1_ f2_ f3_;subst f4_;subst f5_))
      obtain ⟨Ao41,co41,eo41⟩:=Kd.R_slice HO522.out
      (first | subst eo41 | (injection eo41 with f1_ f2_ f3_;have f4_:=f1_.symm;have f5_:=f3_.symm;clear f1_ f2_ f3_;subst f4_;subst f5_))
      refine hK.out _ _ ⟨bcu BK505 0,bcu BK505 1,bcu BK505 2,bcu BK506 0,bcu BK506 1,bcu BK506 2⟩ (fun hHeld=>?_)
      clear hK K
      refine no_ 33 ?_
      refine on_ 5 (some 35) (bl 12 575) HT_ (fun K hK=>?_)
      refine gS Try.func26 #[.agg #[.int .i64 t509,.slice Ao38 t510.length co38,.slice Ao39 t513.length co39],.agg #[.int .i64 t516,.slice Ao40 t517.length co40,.slice Ao41 t520.length co41],.int .i64 a2] ?_
      with_reducible refine (spec_MergeRules.calls k t509 _ _ t510 _ _ t513 t516 _ _ t517 _ _ t520 a2 t523 t524 t527 t530 _ ?side1 ?side2 ?side3 ?side4 ?side5 ?side6 ?side7 ?side8 A22.out).mono ?_
      (case side1=>exact uC ((Kd.R_reads' HO512.out).2.2))
      (case side2=>exact (Kd.R_reads' HO512.out).2.1)
      (case side3=>exact uC ((Kd.R_reads' HO515.out).2.2))
      (case side4=>exact (Kd.R_reads' HO515.out).2.1)
      (case side5=>exact uC ((Kd.R_reads' HO519.out).2.2))
      (case side6=>exact (Kd.R_reads' HO519.out).2.1)
      (case side7=>exact uC ((Kd.R_reads' HO522.out).2.2))
      (case side8=>exact (Kd.R_reads' HO522.out).2.1)
      rintro e w42 ⟨v525,v528,rfl,ho0,ho1,hb⟩
      refine ⟨_,rfl,?_⟩
      have HO526:=zA (Kd.R_lower (nw (nw (nw (nw ho0 (uR HO512.out)) (uR HO515.out)) (uR HO519.out)) (uR HO522.out)) (below_size (uH HB.out)))
      have HO529:=zA (Kd.R_lower (nw (nw (nw (nw ho1 (uR HO512.out)) (uR HO515.out)) (uR HO519.out)) (uR HO522.out)) (below_size (uH HB.out)))
      replace HO512:=td2 (uR HO512.out) hb ho0 ho1
      replace HO515:=td2 (uR HO515.out) hb ho0 ho1
      replace HO519:=td2 (uR HO519.out) hb ho0 ho1
      replace HO522:=td2 (uR HO522.out) hb ho0 ho1
      replace BK505:=xB BK505 hb
      replace BK506:=xB BK506 hb
      replace BK531:=xB BK531 hb
      replace HB:=xH HB hb
      (try clear hb);(try clear ho0);(try clear ho1)
      refine hK.out _ _ ⟨bcu BK505 0,bcu BK505 1,bcu BK505 2,bcu BK506 0,bcu BK506 1,bcu BK506 2⟩ (fun hHeld=>?_)
      clear hK K
      refine no_ 35 ?_
      refine pu_ 6 29 (bl 12 639) HT_ ?_
      refine pu_ 7 36 (bl 12 767) HT_ ?_
      refine pu_ 8 37 (bl 12 1023) HT_ ?_
      exact norm_ (by simp only [putAll,Act.put,ls,lz,ln]) (hCont (.slice Ao38 t510.length co38,.slice Ao39 t513.length co39,.slice Ao40 t517.length co40,.slice Ao41 t520.length co41,v525,v528,gb531) _ ⟨hHeld,(uR (Kd.R_mono HO512.out (fun _ ⟨⟨⟨⟨a,b⟩,c⟩,d⟩,f⟩=>⟨a,b,c,d,f⟩))),(uR (Kd.R_mono HO515.out (fun _ ⟨⟨⟨⟨a,b⟩,c⟩,d⟩,f⟩=>⟨a,b,c,d,f⟩))),(uR (Kd.R_mono HO519.out (fun _ ⟨⟨⟨⟨c,a⟩,b⟩,d⟩,f⟩=>⟨a,b,c,d,f⟩))),(uR (Kd.R_mono HO522.out (fun _ ⟨⟨⟨⟨c,a⟩,b⟩,d⟩,f⟩=>⟨a,b,c,d,f⟩))),(uR (Kd.R_mono HO526.out (fun _ ⟨⟨⟨⟨f,a⟩,b⟩,c⟩,d⟩=>⟨a,b,c,d,f⟩))),(uR (Kd.R_mono HO529.out (fun _ ⟨⟨⟨⟨f,a⟩,b⟩,c⟩,d⟩=>⟨a,b,c,d,f⟩))),(uB BK505.out),(uB BK506.out),(uB BK531.out),GW531.out,GE531.out,NB505_531.out,NB531_505.out,NB506_531.out,NB531_506.out,(uH HB.out)⟩)
    ·skip
     refine box_step ?hg (N:=8) ?hd (cs:=#[.int .i64 0,.slice none 0 0,.slice none 0 0]) (t:=51) ?hr ?_;(case hd=>rfl);(case hg=>rfl);(case hr=>first | (go_simp;done) | (go_simp;rfl))
     intro gb531 hg w35 hbox hb
     have BK531:=zA (hbox)
     have GW531:=gq HB hg
     have GE531:=gq HB hg
     replace HB:=xH HB hb
     have NB505_531:=zA ((by rw [hg];exact neL BK505 : gb505 ≠ gb531))
     have NB531_505:=zA ((by rw [hg];exact neG BK505 : gb531 ≠ gb505))
     replace BK505:=xB BK505 hb
     have NB506_531:=zA ((by rw [hg];exact neL BK506 : gb506 ≠ gb531))
     have NB531_506:=zA ((by rw [hg];exact neG BK506 : gb531 ≠ gb506))
     replace BK506:=xB BK506 hb
     have:=geI GE531
     clear hb hbox hg
     refine hK.out _ _ ⟨bcu BK505 0,bcu BK505 1,bcu BK505 2,bcu BK506 0,bcu BK506 1,bcu BK506 2⟩ (fun hHeld=>?_)
     clear hK K
     refine no_ 8 ?_
     refine on_ 1 (some 31) (bl 12 535) HT_ (fun K hK=>?_)
     refine gS Try.func27 #[.agg #[.int .i64 a0_0,.slice A0_1 l0_1.length c0_1,.slice A0_2 l0_2.length c0_2]] ?_
     with_reducible refine (laws_toRule.calls k a0_0 _ _ l0_1 _ _ l0_2 t509 t510 t513 _ ?side1 ?side2 ?side3 ?side4 A20.out).mono ?_
     (case side1=>exact uC ((Kd.C_below HR0_1.out HB.out)))
     (case side2=>exact HC0_1.out)
     (case side3=>exact uC ((Kd.C_below HR0_2.out HB.out)))
     (case side4=>exact HC0_2.out)
     rintro e w36 ⟨v511,v514,rfl,ho0,ho1,hb⟩
     refine ⟨_,rfl,?_⟩
     have HO512:=zA (Kd.R_lower ho0 (below_size (uH HB.out)))
     have HO515:=zA (Kd.R_lower ho1 (below_size (uH HB.out)))
     replace BK505:=xB BK505 hb
     replace BK506:=xB BK506 hb
     replace BK531:=xB BK531 hb
     replace HB:=xH HB hb
     (try clear hb);(try clear ho0);(try clear ho1)
     refine hK.out _ _ ⟨bcu BK505 0,bcu BK505 1,bcu BK505 2,bcu BK506 0,bcu BK506 1,bcu BK506 2⟩ (fun hHeld=>?_)
     clear hK K
     refine no_ 31 ?_
     refine on_ 3 (some 33) (bl 12 543) HT_ (fun K hK=>?_)
     refine gS Try.func27 #[.agg #[.int .i64 a1_0,.slice A1_1 l1_1.length c1_1,.slice A1_2 l1_2.length c1_2]] ?_
     with_reducible refine (laws_toRule.calls k a1_0 _ _ l1_1 _ _ l1_2 t516 t517 t520 _ ?side1 ?side2 ?side3 ?side4 A21.out).mono ?_
     (case side1=>exact uC ((Kd.C_below HR1_1.out HB.out)))
     (case side2=>exact HC1_1.out)
     (case side3=>exact uC ((Kd.C_below HR1_2.out HB.out)))
     (case side4=>exact HC1_2.out)
     rintro e w37 ⟨v518,v521,rfl,ho0,ho1,hb⟩
     refine ⟨_,rfl,?_⟩
     have HO519:=zA (Kd.R_lower (nw (nw ho0 (uR HO512.out)) (uR HO515.out)) (below_size (uH HB.out)))
     have HO522:=zA (Kd.R_lower (nw (nw ho1 (uR HO512.out)) (uR HO515.out)) (below_size (uH HB.out)))
     replace HO512:=td2 (uR HO512.out) hb ho0 ho1
     replace HO515:=td2 (uR HO515.out) hb ho0 ho1
     replace BK505:=xB BK505 hb
     replace BK506:=xB BK506 hb
     replace BK531:=xB BK531 hb
     replace HB:=xH HB hb
     (try clear hb);(try clear ho0);(try clear ho1)
     obtain ⟨Ao38,co38,eo38⟩:=Kd.R_slice HO512.out
     (first | subst eo38 | (injection eo38 with f1_ f2_ f3_;have f4_:=f1_.symm;have f5_:=f3_.symm;clear f1_ f2_ f3_;subst f4_;subst f5_))
     obtain ⟨Ao39,co39,eo39⟩:=Kd.R_slice HO515.out
     (first | subst eo39 | (injection eo39 with f1_ f2_ f3_;have f4_:=f1_.symm;have f5_:=f3_.symm;clear f1_ f2_ f3_;subst f4_;subst f5_))
     obtain ⟨Ao40,co40,eo40⟩:=Kd.R_slice HO519.out
     (first | subst eo40 | (injection eo40 with f1_ f2_ f3_;have f4_:=f1_.symm;have f5_:=f3_.symm;clear f1_ f2_ f3_;subst f4_;subst f5_))
     obtain ⟨Ao41,co41,eo41⟩:=Kd.R_slice HO522.out
     (first | subst eo41 | (injection eo41 with f1_ f2_ f3_;have f4_:=f1_.symm;have f5_:=f3_.symm;clear f1_ f2_ f3_;subst f4_;subst f5_))
     refine hK.out _ _ ⟨bcu BK505 0,bcu BK505 1,bcu BK505 2,bcu BK506 0,bcu BK506 1,bcu BK506 2⟩ (fun hHeld=>?_)
     clear hK K
     refine no_ 33 ?_
     refine on_ 5 (some 35) (bl 12 575) HT_ (fun K hK=>?_)
     refine gS Try.func26 #[.agg #[.int .i64 t509,.slice Ao38 t510.length co38,.slice Ao39 t513.length co39],.agg #[.int .i64 t516,.slice Ao40 t517.length co40,.slice Ao41 t520.length co41],.int .i64 a2] ?_
     with_reducible refine (spec_MergeRules.calls k t509 _ _ t510 _ _ t513 t516 _ _ t517 _ _ t520 a2 t523 t524 t527 t530 _ ?side1 ?side2 ?side3 ?side4 ?side5 ?side6 ?side7 ?side8 A22.out).mono ?_
     (case side1=>exact uC ((Kd.R_reads' HO512.out).2.2))
     (case side2=>exact (Kd.R_reads' HO512.out).2.1)
     (case side3=>exact uC ((Kd.R_reads' HO515.out).2.2))
     (case side4=>exact (Kd.R_reads' HO515.out).2.1)
     (case side5=>exact uC ((Kd.R_reads' HO519.out).2.2))
     (case side6=>exact (Kd.R_reads' HO519.out).2.1)
     (case side7=>exact uC ((Kd.R_reads' HO522.out).2.2))
     (case side8=>exact (Kd.R_reads' HO522.out).2.1)
     rintro e w42 ⟨v525,v528,rfl,ho0,ho1,hb⟩
     refine ⟨_,rfl,?_⟩
     have HO526:=zA (Kd.R_lower (nw (nw (nw (nw ho0 (uR HO512.out)) (uR HO515.out)) (uR HO519.out)) (uR HO522.out)) (below_size (uH HB.out)))
     have HO529:=zA (Kd.R_lower (nw (nw (nw (nw ho1 (uR HO512.out)) (uR HO515.out)) (uR HO519.out)) (uR HO522.out)) (below_size (uH HB.out)))
     replace HO512:=td2 (uR HO512.out) hb ho0 ho1
     replace HO515:=td2 (uR HO515.out) hb ho0 ho1
     replace HO519:=td2 (uR HO519.out) hb ho0 ho1
     replace HO522:=td2 (uR HO522.out) hb ho0 ho1
     replace BK505:=xB BK505 hb
     replace BK506:=xB BK506 hb
     replace BK531:=xB BK531 hb
     replace HB:=xH HB hb
     (try clear hb);(try clear ho0);(try clear ho1)
     refine hK.out _ _ ⟨bcu BK505 0,bcu BK505 1,bcu BK505 2,bcu BK506 0,bcu BK506 1,bcu BK506 2⟩ (fun hHeld=>?_)
     clear hK K
     refine no_ 35 ?_
     refine pu_ 6 29 (bl 12 639) HT_ ?_
     refine pu_ 7 36 (bl 12 767) HT_ ?_
     refine pu_ 8 37 (bl 12 1023) HT_ ?_
     exact norm_ (by simp only [putAll,Act.put,ls,lz,ln]) (hCont (.slice Ao38 t510.length co38,.slice Ao39 t513.length co39,.slice Ao40 t517.length co40,.slice Ao41 t520.length co41,v525,v528,gb531) _ ⟨hHeld,(uR (Kd.R_mono HO512.out (fun _ ⟨⟨⟨⟨a,b⟩,c⟩,d⟩,f⟩=>⟨a,b,c,d,f⟩))),(uR (Kd.R_mono HO515.out (fun _ ⟨⟨⟨⟨a,b⟩,c⟩,d⟩,f⟩=>⟨a,b,c,d,f⟩))),(uR (Kd.R_mono HO519.out (fun _ ⟨⟨⟨⟨c,a⟩,b⟩,d⟩,f⟩=>⟨a,b,c,d,f⟩))),(uR (Kd.R_mono HO522.out (fun _ ⟨⟨⟨⟨c,a⟩,b⟩,d⟩,f⟩=>⟨a,b,c,d,f⟩))),(uR (Kd.R_mono HO526.out (fun _ ⟨⟨⟨⟨f,a⟩,b⟩,c⟩,d⟩=>⟨a,b,c,d,f⟩))),(uR (Kd.R_mono HO529.out (fun _ ⟨⟨⟨⟨f,a⟩,b⟩,c⟩,d⟩=>⟨a,b,c,d,f⟩))),(uB BK505.out),(uB BK506.out),(uB BK531.out),GW531.out,GE531.out,NB505_531.out,NB531_505.out,NB506_531.out,NB531_506.out,(uH HB.out)⟩)
   rintro ⟨v511,v514,v518,v521,v525,v528,gb531⟩ w43 ⟨hS_,h0_,h1_,h2_,h3_,h4_,h5_,h6_,h7_,h8_,h9_,h10_,h11_,h12_,h13_,h14_,h15_⟩
   have n0_ : Aside0 (Kd.R (Kd.int .i64) 2 w43 w.heap.size (fun k_=>ax k_ v514∧ax k_ v518∧ax k_ v521∧ax k_ v525∧ax k_ v528) v511 t510):=⟨h0_⟩
   have n1_ : Aside0 (Kd.R (Kd.int .i64) 2 w43 w.heap.size (fun k_=>ax k_ v511∧ax k_ v518∧ax k_ v521∧ax k_ v525∧ax k_ v528) v514 t513):=⟨h1_⟩
   have n2_ : Aside0 (Kd.R (Kd.int .i64) 2 w43 w.heap.size (fun k_=>ax k_ v511∧ax k_ v514∧ax k_ v521∧ax k_ v525∧ax k_ v528) v518 t517):=⟨h2_⟩
   have n3_ : Aside0 (Kd.R (Kd.int .i64) 2 w43 w.heap.size (fun k_=>ax k_ v511∧ax k_ v514∧ax k_ v518∧ax k_ v525∧ax k_ v528) v521 t520):=⟨h3_⟩
   have n4_ : Aside0 (Kd.R (Kd.int .i64) 2 w43 w.heap.size (fun k_=>ax k_ v511∧ax k_ v514∧ax k_ v518∧ax k_ v521∧ax k_ v528) v525 t524):=⟨h4_⟩
   have n5_ : Aside0 (Kd.R (Kd.int .i64) 2 w43 w.heap.size (fun k_=>ax k_ v511∧ax k_ v514∧ax k_ v518∧ax k_ v521∧ax k_ v525) v528 t527):=⟨h5_⟩
   have n6_ : Aside0 (w43.heap[gb505]? = some (.cells #[.int .i64 a0_0,.slice A0_1 l0_1.length c0_1,.slice A0_2 l0_2.length c0_2] 49 (0,0))):=⟨h6_⟩
   have n7_ : Aside0 (w43.heap[gb506]? = some (.cells #[.int .i64 a1_0,.slice A1_1 l1_1.length c1_1,.slice A1_2 l1_2.length c1_2] 49 (0,0))):=⟨h7_⟩
   have n8_ : Aside0 (w43.heap[gb531]? = some (.cells #[.int .i64 0,.slice none 0 0,.slice none 0 0] 51 (0,0))):=⟨h8_⟩
   have n9_ : Aside0 (w.heap.size ≤ gb531):=⟨h9_⟩
   have n10_ : Aside0 (w.heap.size ≤ gb531):=⟨h10_⟩
   have n11_ : Aside0 (gb505 ≠ gb531):=⟨h11_⟩
   have n12_ : Aside0 (gb531 ≠ gb505):=⟨h12_⟩
   have n13_ : Aside0 (gb506 ≠ gb531):=⟨h13_⟩
   have n14_ : Aside0 (gb531 ≠ gb506):=⟨h14_⟩
   have n15_ : Aside0 (Below w.heap.size w w43):=⟨h15_⟩
   clear BK505 BK506 HB
   clear h0_ h1_ h2_ h3_ h4_ h5_ h6_ h7_ h8_ h9_ h10_ h11_ h12_ h13_ h14_ h15_
   have HO512:=n0_
   have HO515:=n1_
   have HO519:=n2_
   have HO522:=n3_
   have HO526:=n4_
   have HO529:=n5_
   have BK505:=n6_
   have BK506:=n7_
   have BK531:=n8_
   have GW531:=n9_
   have GE531:=n10_
   have:=geI GE531
   have NB505_531:=n11_
   have NB531_505:=n12_
   have NB506_531:=n13_
   have NB531_506:=n14_
   have HB:=n15_
   clear n0_ n1_ n2_ n3_ n4_ n5_ n6_ n7_ n8_ n9_ n10_ n11_ n12_ n13_ n14_ n15_
   have hHeld : w43.cell? ⟨gb505,0,none⟩ = some (.int .i64 a0_0)∧w43.cell? ⟨gb505,1,none⟩ = some (.slice A0_1 l0_1.length c0_1)∧w43.cell? ⟨gb505,2,none⟩ = some (.slice A0_2 l0_2.length c0_2)∧w43.cell? ⟨gb506,0,none⟩ = some (.int .i64 a1_0)∧w43.cell? ⟨gb506,1,none⟩ = some (.slice A1_1 l1_1.length c1_1)∧w43.cell? ⟨gb506,2,none⟩ = some (.slice A1_2 l1_2.length c1_2):=hS_
   obtain ⟨Ao45,co45,eo45⟩:=Kd.R_slice HO526.out
   (first | subst eo45 | (injection eo45 with f1_ f2_ f3_;have f4_:=f1_.symm;have f5_:=f3_.symm;clear f1_ f2_ f3_;subst f4_;subst f5_))
   obtain ⟨Ao47,co47,eo47⟩:=Kd.R_slice HO529.out
   (first | subst eo47 | (injection eo47 with f1_ f2_ f3_;have f4_:=f1_.symm;have f5_:=f3_.symm;clear f1_ f2_ f3_;subst f4_;subst f5_))
   refine norm_ (a':=?_) ?_ ?_
   rotate_left
   ·simp only [putAll,Act.put,ls,lz,ln]
    rfl
   refine on_ 10 (none) (bl 12 2047) HT_ (fun K hK=>?_)
   have hs44 : w43.cell? ⟨gb531,0,none⟩ = some (.int .i64 0):=(blk_cell BK531.out 0).trans rfl
   have hfs44:=bf BK531 0
   have hns44_0:=NB505_531.out;have hns44_1:=NB506_531.out;have hms44_0:=NB531_505.out;have hms44_1:=NB531_506.out
   have hs46 : w43.cell? ⟨gb531,1,none⟩ = some (.slice none 0 0):=(blk_cell BK531.out 1).trans rfl
   have hfs46:=bf BK531 1
   have hns46_0:=NB505_531.out;have hns46_1:=NB506_531.out;have hms46_0:=NB531_505.out;have hms46_1:=NB531_506.out
   have hs48 : w43.cell? ⟨gb531,2,none⟩ = some (.slice none 0 0):=(blk_cell BK531.out 2).trans rfl
   have hfs48:=bf BK531 2
   have hns48_0:=NB505_531.out;have hns48_1:=NB506_531.out;have hms48_0:=NB531_505.out;have hms48_1:=NB531_506.out
   refine skip_ (w1:=?_) (by rfl) rfl ?_ ?_
   rotate_left
   ·go_simp
    rfl
   refine hK.out _ _ ⟨((cell_far (p:=⟨gb531,_,none⟩) NB505_531.out _).trans (((cell_far (p:=⟨gb531,_,none⟩) NB505_531.out _).trans (((cell_far (p:=⟨gb531,_,none⟩) NB505_531.out _).trans (hHeld.1)))))),((cell_far (p:=⟨gb531,_,none⟩) NB505_531.out _).trans (((cell_far (p:=⟨gb531,_,none⟩) NB505_531.out _).trans (((cell_far (p:=⟨gb531,_,none⟩) NB505_531.out _).trans (hHeld.2.1)))))),((cell_far (p:=⟨gb531,_,none⟩) NB505_531.out _).trans (((cell_far (p:=⟨gb531,_,none⟩) NB505_531.out _).trans (((cell_far (p:=⟨gb531,_,none⟩) NB505_531.out _).trans (hHeld.2.2.1)))))),((cell_far (p:=⟨gb531,_,none⟩) NB506_531.out _).trans (((cell_far (p:=⟨gb531,_,none⟩) NB506_531.out _).trans (((cell_far (p:=⟨gb531,_,none⟩) NB506_531.out _).trans (hHeld.2.2.2.1)))))),((cell_far (p:=⟨gb531,_,none⟩) NB506_531.out _).trans (((cell_far (p:=⟨gb531,_,none⟩) NB506_531.out _).trans (((cell_far (p:=⟨gb531,_,none⟩) NB506_531.out _).trans (hHeld.2.2.2.2.1)))))),((cell_far (p:=⟨gb531,_,none⟩) NB506_531.out _).trans (((cell_far (p:=⟨gb531,_,none⟩) NB506_531.out _).trans (((cell_far (p:=⟨gb531,_,none⟩) NB506_531.out _).trans (hHeld.2.2.2.2.2))))))⟩ (fun hHeld=>?_)
   clear hK K
   refine pu_ 11 9 (bl 12 4095) HT_ ?_
   refine done_ (done_of HT_.out (by kernel_rfl)) ?_
   have hnb49:=NB505_531.out;have hnc49:=NB531_505.out
   have hcz50_0:=bc BK505 0
   have hcz50_1:=bc BK505 1
   have hcz50_2:=bc BK505 2
   have hfz50_0:=bf BK505 0
   have hfz50_1:=bf BK505 1
   have hfz50_2:=bf BK505 2
   go_upto_region 12 with (first | ((with_reducible refine gate_callee (f:=27) rfl ?_);refine gL (some 39) Try.func27 #[.agg #[.int .i64 a0_0,.slice A0_1 l0_1.length c0_1,.slice A0_2 l0_2.length c0_2]] ?_;(with_reducible refine (laws_toRule.calls k a0_0 _ _ l0_1 _ _ l0_2 t532 t533 t536 _ ?side1 ?side2 ?side3 ?side4 A23.out).mono ?_);(case side1=>exact Kd.C_below HR0_1.out (uH HB.out));(case side2=>exact HC0_1.out);(case side3=>exact Kd.C_below HR0_2.out (uH HB.out));(case side4=>exact HC0_2.out);rintro e w51 ⟨v534,v537,rfl,ho0,ho1,hb⟩;refine ⟨_,rfl,?_⟩;have qHO512:=rf3 HO512 BK531 (by decide) (.int .i64 t523) (.slice Ao45 t524.length co45) (.slice Ao47 t527.length co47);have qHO515:=rf3 HO515 BK531 (by decide) (.int .i64 t523) (.slice Ao45 t524.length co45) (.slice Ao47 t527.length co47);have qHO519:=rf3 HO519 BK531 (by decide) (.int .i64 t523) (.slice Ao45 t524.length co45) (.slice Ao47 t527.length co47);have qHO522:=rf3 HO522 BK531 (by decide) (.int .i64 t523) (.slice Ao45 t524.length co45) (.slice Ao47 t527.length co47);have qHO526:=rf3 HO526 BK531 (by decide) (.int .i64 t523) (.slice Ao45 t524.length co45) (.slice Ao47 t527.length co47);have qHO529:=rf3 HO529 BK531 (by decide) (.int .i64 t523) (.slice Ao45 t524.length co45) (.slice Ao47 t527.length co47);have HO535:=zA (Kd.R_lower (nw (nw (nw (nw (nw (nw ho0 (uR qHO512)) (uR qHO515)) (uR qHO519)) (uR qHO522)) (uR qHO526)) (uR qHO529)) (below_size (uH HB.out)));have HO538:=zA (Kd.R_lower (nw (nw (nw (nw (nw (nw ho1 (uR qHO512)) (uR qHO515)) (uR qHO519)) (uR qHO522)) (uR qHO526)) (uR qHO529)) (below_size (uH HB.out)));replace HO512:=td2 (uR qHO512) hb ho0 ho1;replace HO515:=td2 (uR qHO515) hb ho0 ho1;replace HO519:=td2 (uR qHO519) hb ho0 ho1;replace HO522:=td2 (uR qHO522) hb ho0 ho1;replace HO526:=td2 (uR qHO526) hb ho0 ho1;replace HO529:=td2 (uR qHO529) hb ho0 ho1;clear qHO512 qHO515 qHO519 qHO522 qHO526 qHO529;replace BK505:=zA (blk_below (g:=gb505) (o:=.cells #[.int .i64 a0_0,.slice A0_1 l0_1.length c0_1,.slice A0_2 l0_2.length c0_2] 49 (0,0)) (by (repeat refine up1 ?_);refine blk_far ?_ NB505_531.out _;(repeat refine up1 ?_);refine blk_far ?_ NB505_531.out _;(repeat refine up1 ?_);refine blk_far ?_ NB505_531.out _;(repeat refine up1 ?_);exact BK505.out) hb);replace BK506:=zA (blk_below (g:=gb506) (o:=.cells #[.int .i64 a1_0,.slice A1_1 l1_1.length c1_1,.slice A1_2 l1_2.length c1_2] 49 (0,0)) (by (repeat refine up1 ?_);refine blk_far ?_ NB506_531.out _;(repeat refine up1 ?_);refine blk_far ?_ NB506_531.out _;(repeat refine up1 ?_);refine blk_far ?_ NB506_531.out _;(repeat refine up1 ?_);exact BK506.out) hb);replace BK531:=zA (blk_below (g:=gb531) (o:=.cells #[.int .i64 t523,.slice Ao45 t524.length co45,.slice Ao47 t527.length co47] 51 (0,0)) (by (repeat refine up1 ?_);refine blk_put (cs:=#[.int .i64 t523,.slice Ao45 t524.length co45,.slice none 0 0]) ?_ 2 _ rfl;(repeat refine up1 ?_);refine blk_put (cs:=#[.int .i64 t523,.slice none 0 0,.slice none 0 0]) ?_ 1 _ rfl;(repeat refine up1 ?_);refine blk_put (cs:=#[.int .i64 0,.slice none 0 0,.slice none 0 0]) ?_ 0 _ rfl;(repeat refine up1 ?_);exact BK531.out) hb);replace HB:=xH HB hb;(try clear hb);(try clear ho0);(try clear ho1)) | ((with_reducible refine gate_dst (N:=10) rfl ?_);refine bx 10 #[.int .i64 0,.slice none 0 0,.slice none 0 0] 51 ?_;intro gb539 hg w52 hbox hb;replace HO512:=xR HO512 hb;replace HO515:=xR HO515 hb;replace HO519:=xR HO519 hb;replace HO522:=xR HO522 hb;replace HO526:=xR HO526 hb;replace HO529:=xR HO529 hb;replace HO535:=xR HO535 hb;replace HO538:=xR HO538 hb;have BK539:=zA (hbox);have GW539:=gq HB hg;have GE539:=gq HB hg;replace HB:=xH HB hb;have NB505_539:=zA ((by rw [hg];exact neL BK505 : gb505 ≠ gb539));have NB539_505:=zA ((by rw [hg];exact neG BK505 : gb539 ≠ gb505));replace BK505:=xB BK505 hb;have NB506_539:=zA ((by rw [hg];exact neL BK506 : gb506 ≠ gb539));have NB539_506:=zA ((by rw [hg];exact neG BK506 : gb539 ≠ gb506));replace BK506:=xB BK506 hb;have NB531_539:=zA ((by rw [hg];exact neL BK531 : gb531 ≠ gb539));have NB539_531:=zA ((by rw [hg];exact neG BK531 : gb539 ≠ gb531));replace BK531:=xB BK531 hb;have:=geI GE539;clear hb hbox hg;have hnb53:=NB539_505.out;have hnc53:=NB505_539.out;have hnb54:=NB539_506.out;have hnc54:=NB506_539.out;have hnb55:=NB539_531.out;have hnc55:=NB531_539.out;have hcz56_0:=bc BK539 0;have hcz56_1:=bc BK539 1;have hcz56_2:=bc BK539 2;have hfz56_0:=bf BK539 0;have hfz56_1:=bf BK539 1;have hfz56_2:=bf BK539 2;obtain ⟨Ao57,co57,eo57⟩:=Kd.R_slice HO535.out;subst eo57;obtain ⟨Ao58,co58,eo58⟩:=Kd.R_slice HO538.out;subst eo58;have hnb59:=NB506_531.out;have hnc59:=NB531_506.out;have hcz60_0:=bc BK506 0;have hcz60_1:=bc BK506 1;have hcz60_2:=bc BK506 2;have hfz60_0:=bf BK506 0;have hfz60_1:=bf BK506 1;have hfz60_2:=bf BK506 2) | ((with_reducible refine gate_callee (f:=27) rfl ?_);refine gL (some 41) Try.func27 #[.agg #[.int .i64 a1_0,.slice A1_1 l1_1.length c1_1,.slice A1_2 l1_2.length c1_2]] ?_;(with_reducible refine (laws_toRule.calls k a1_0 _ _ l1_1 _ _ l1_2 t540 t541 t544 _ ?side1 ?side2 ?side3 ?side4 A24.out).mono ?_);(case side1=>exact Kd.C_below HR1_1.out (uH HB.out));(case side2=>exact HC1_1.out);(case side3=>exact Kd.C_below HR1_2.out (uH HB.out));(case side4=>exact HC1_2.out);rintro e w61 ⟨v542,v545,rfl,ho0,ho1,hb⟩;refine ⟨_,rfl,?_⟩;have qHO512:=rf3 HO512 BK539 (by decide) (.int .i64 t532) (.slice Ao57 t533.length co57) (.slice Ao58 t536.length co58);have qHO515:=rf3 HO515 BK539 (by decide) (.int .i64 t532) (.slice Ao57 t533.length co57) (.slice Ao58 t536.length co58);have qHO519:=rf3 HO519 BK539 (by decide) (.int .i64 t532) (.slice Ao57 t533.length co57) (.slice Ao58 t536.length co58);have qHO522:=rf3 HO522 BK539 (by decide) (.int .i64 t532) (.slice Ao57 t533.length co57) (.slice Ao58 t536.length co58);have qHO526:=rf3 HO526 BK539 (by decide) (.int .i64 t532) (.slice Ao57 t533.length co57) (.slice Ao58 t536.length co58);have qHO529:=rf3 HO529 BK539 (by decide) (.int .i64 t532) (.slice Ao57 t533.length co57) (.slice Ao58 t536.length co58);have qHO535:=rf3 HO535 BK539 (by decide) (.int .i64 t532) (.slice Ao57 t533.length co57) (.slice Ao58 t536.length co58);have qHO538:=rf3 HO538 BK539 (by decide) (.int .i64 t532) (.slice Ao57 t533.length co57) (.slice Ao58 t536.length co58);have HO543:=zA (Kd.R_lower (nw (nw (nw (nw (nw (nw (nw (nw ho0 (uR qHO512)) (uR qHO515)) (uR qHO519)) (uR qHO522)) (uR qHO526)) (uR qHO529)) (uR qHO535)) (uR qHO538)) (below_size (uH HB.out)));have HO546:=zA (Kd.R_lower (nw (nw (nw (nw (nw (nw (nw (nw ho1 (uR qHO512)) (uR qHO515)) (uR qHO519)) (uR qHO522)) (uR qHO526)) (uR qHO529)) (uR qHO535)) (uR qHO538)) (below_size (uH HB.out)));replace HO512:=td2 (uR qHO512) hb ho0 ho1;replace HO515:=td2 (uR qHO515) hb ho0 ho1;replace HO519:=td2 (uR qHO519) hb ho0 ho1;replace HO522:=td2 (uR qHO522) hb ho0 ho1;replace HO526:=td2 (uR qHO526) hb ho0 ho1;replace HO529:=td2 (uR qHO529) hb ho0 ho1;replace HO535:=td2 (uR qHO535) hb ho0 ho1;replace HO538:=td2 (uR qHO538) hb ho0 ho1;clear qHO512 qHO515 qHO519 qHO522 qHO526 qHO529 qHO535 qHO538;replace BK505:=zA (blk_below (g:=gb505) (o:=.cells #[.int .i64 a0_0,.slice A0_1 l0_1.length c0_1,.slice A0_2 l0_2.length c0_2] 49 (0,0)) (by (repeat refine up1 ?_);refine blk_far ?_ NB505_539.out _;(repeat refine up1 ?_);refine blk_far ?_ NB505_539.out _;(repeat refine up1 ?_);refine blk_far ?_ NB505_539.out _;(repeat refine up1 ?_);exact BK505.out) hb);replace BK506:=zA (blk_below (g:=gb506) (o:=.cells #[.int .i64 a1_0,.slice A1_1 l1_1.length c1_1,.slice A1_2 l1_2.length c1_2] 49 (0,0)) (by (repeat refine up1 ?_);refine blk_far ?_ NB506_539.out _;(repeat refine up1 ?_);refine blk_far ?_ NB506_539.out _;(repeat refine up1 ?_);refine blk_far ?_ NB506_539.out _;(repeat refine up1 ?_);exact BK506.out) hb);replace BK531:=zA (blk_below (g:=gb531) (o:=.cells #[.int .i64 t523,.slice Ao45 t524.length co45,.slice Ao47 t527.length co47] 51 (0,0)) (by (repeat refine up1 ?_);refine blk_far ?_ NB531_539.out _;(repeat refine up1 ?_);refine blk_far ?_ NB531_539.out _;(repeat refine up1 ?_);refine blk_far ?_ NB531_539.out _;(repeat refine up1 ?_);exact BK531.out) hb);replace BK539:=zA (blk_below (g:=gb539) (o:=.cells #[.int .i64 t532,.slice Ao57 t533.length co57,.slice Ao58 t536.length co58] 51 (0,0)) (by (repeat refine up1 ?_);refine blk_put (cs:=#[.int .i64 t532,.slice Ao57 t533.length co57,.slice none 0 0]) ?_ 2 _ rfl;(repeat refine up1 ?_);refine blk_put (cs:=#[.int .i64 t532,.slice none 0 0,.slice none 0 0]) ?_ 1 _ rfl;(repeat refine up1 ?_);refine blk_put (cs:=#[.int .i64 0,.slice none 0 0,.slice none 0 0]) ?_ 0 _ rfl;(repeat refine up1 ?_);exact BK539.out) hb);replace HB:=xH HB hb;(try clear hb);(try clear ho0);(try clear ho1)) | ((with_reducible refine gate_dst (N:=11) rfl ?_);refine bx 11 #[.int .i64 0,.slice none 0 0,.slice none 0 0] 51 ?_;intro gb547 hg w62 hbox hb;replace HO512:=xR HO512 hb;replace HO515:=xR HO515 hb;replace HO519:=xR HO519 hb;replace HO522:=xR HO522 hb;replace HO526:=xR HO526 hb;replace HO529:=xR HO529 hb;replace HO535:=xR HO535 hb;replace HO538:=xR HO538 hb;replace HO543:=xR HO543 hb;replace HO546:=xR HO546 hb;have BK547:=zA (hbox);have GW547:=gq HB hg;have GE547:=gq HB hg;replace HB:=xH HB hb;have NB505_547:=zA ((by rw [hg];exact neL BK505 : gb505 ≠ gb547));have NB547_505:=zA ((by rw [hg];exact neG BK505 : gb547 ≠ gb505));replace BK505:=xB BK505 hb;have NB506_547:=zA ((by rw [hg];exact neL BK506 : gb506 ≠ gb547));have NB547_506:=zA ((by rw [hg];exact neG BK506 : gb547 ≠ gb506));replace BK506:=xB BK506 hb;have NB531_547:=zA ((by rw [hg];exact neL BK531 : gb531 ≠ gb547));have NB547_531:=zA ((by rw [hg];exact neG BK531 : gb547 ≠ gb531));replace BK531:=xB BK531 hb;have NB539_547:=zA ((by rw [hg];exact neL BK539 : gb539 ≠ gb547));have NB547_539:=zA ((by rw [hg];exact neG BK539 : gb547 ≠ gb539));replace BK539:=xB BK539 hb;have:=geI GE547;clear hb hbox hg;have hnb63:=NB547_505.out;have hnc63:=NB505_547.out;have hnb64:=NB547_506.out;have hnc64:=NB506_547.out;have hnb65:=NB547_531.out;have hnc65:=NB531_547.out;have hnb66:=NB547_539.out;have hnc66:=NB539_547.out;have hcz67_0:=bc BK547 0;have hcz67_1:=bc BK547 1;have hcz67_2:=bc BK547 2;have hfz67_0:=bf BK547 0;have hfz67_1:=bf BK547 1;have hfz67_2:=bf BK547 2;obtain ⟨Ao68,co68,eo68⟩:=Kd.R_slice HO543.out;subst eo68;obtain ⟨Ao69,co69,eo69⟩:=Kd.R_slice HO546.out;subst eo69;have hcz70_0:=bc BK539 0;have hcz70_1:=bc BK539 1;have hcz70_2:=bc BK539 2;have hfz70_0:=bf BK539 0;have hfz70_1:=bf BK539 1;have hfz70_2:=bf BK539 2) | ((with_reducible refine gate_callee (f:=28) rfl ?_);refine gL (some 46) Try.func28 #[.agg #[.int .i64 t532,.slice Ao57 t533.length co57,.slice Ao58 t536.length co58],.agg #[.int .i64 t540,.slice Ao68 t541.length co68,.slice Ao69 t544.length co69],.int .i64 a2] ?_;(with_reducible refine (impl_MergeRules.calls k t532 _ _ t533 _ _ t536 t540 _ _ t541 _ _ t544 a2 t548 t549 t552 t555 _ ?side1 ?side2 ?side3 ?side4 ?side5 ?side6 ?side7 ?side8 A25.out).mono ?_);(case side1=>exact rc (uR ((rf3 HO535 BK547 (by decide) (.int .i64 t540) (.slice Ao68 t541.length co68) (.slice Ao69 t544.length co69)))));(case side2=>exact (Kd.R_reads' HO535.out).2.1);(case side3=>exact rc (uR ((rf3 HO538 BK547 (by decide) (.int .i64 t540) (.slice Ao68 t541.length co68) (.slice Ao69 t544.length co69)))));(case side4=>exact (Kd.R_reads' HO538.out).2.1);(case side5=>exact rc (uR ((rf3 HO543 BK547 (by decide) (.int .i64 t540) (.slice Ao68 t541.length co68) (.slice Ao69 t544.length co69)))));(case side6=>exact (Kd.R_reads' HO543.out).2.1);(case side7=>exact rc (uR ((rf3 HO546 BK547 (by decide) (.int .i64 t540) (.slice Ao68 t541.length co68) (.slice Ao69 t544.length co69)))));(case side8=>exact (Kd.R_reads' HO546.out).2.1);rintro e w71 ⟨v550,v553,rfl,ho0,ho1,hb⟩;refine ⟨_,rfl,?_⟩;have qHO512:=rf3 HO512 BK547 (by decide) (.int .i64 t540) (.slice Ao68 t541.length co68) (.slice Ao69 t544.length co69);have qHO515:=rf3 HO515 BK547 (by decide) (.int .i64 t540) (.slice Ao68 t541.length co68) (.slice Ao69 t544.length co69);have qHO519:=rf3 HO519 BK547 (by decide) (.int .i64 t540) (.slice Ao68 t541.length co68) (.slice Ao69 t544.length co69);have qHO522:=rf3 HO522 BK547 (by decide) (.int .i64 t540) (.slice Ao68 t541.length co68) (.slice Ao69 t544.length co69);have qHO526:=rf3 HO526 BK547 (by decide) (.int .i64 t540) (.slice Ao68 t541.length co68) (.slice Ao69 t544.length co69);have qHO529:=rf3 HO529 BK547 (by decide) (.int .i64 t540) (.slice Ao68 t541.length co68) (.slice Ao69 t544.length co69);have HO551:=zA (Kd.R_lower (nw (nw (nw (nw (nw (nw (nw (nw (nw (nw ho0 (uR qHO512)) (uR qHO515)) (uR qHO519)) (uR qHO522)) (uR qHO526)) (uR qHO529)) (uR ((rf3 HO535 BK547 (by decide) (.int .i64 t540) (.slice Ao68 t541.length co68) (.slice Ao69 t544.length co69))))) (uR ((rf3 HO538 BK547 (by decide) (.int .i64 t540) (.slice Ao68 t541.length co68) (.slice Ao69 t544.length co69))))) (uR ((rf3 HO543 BK547 (by decide) (.int .i64 t540) (.slice Ao68 t541.length co68) (.slice Ao69 t544.length co69))))) (uR ((rf3 HO546 BK547 (by decide) (.int .i64 t540) (.slice Ao68 t541.length co68) (.slice Ao69 t544.length co69))))) (below_size (uH HB.out)));have HO554:=zA (Kd.R_lower (nw (nw (nw (nw (nw (nw (nw (nw (nw (nw ho1 (uR qHO512)) (uR qHO515)) (uR qHO519)) (uR qHO522)) (uR qHO526)) (uR qHO529)) (uR ((rf3 HO535 BK547 (by decide) (.int .i64 t540) (.slice Ao68 t541.length co68) (.slice Ao69 t544.length co69))))) (uR ((rf3 HO538 BK547 (by decide) (.int .i64 t540) (.slice Ao68 t541.length co68) (.slice Ao69 t544.length co69))))) (uR ((rf3 HO543 BK547 (by decide) (.int .i64 t540) (.slice Ao68 t541.length co68) (.slice Ao69 t544.length co69))))) (uR ((rf3 HO546 BK547 (by decide) (.int .i64 t540) (.slice Ao68 t541.length co68) (.slice Ao69 t544.length co69))))) (below_size (uH HB.out)));replace HO512:=td2 (uR qHO512) hb ho0 ho1;replace HO515:=td2 (uR qHO515) hb ho0 ho1;replace HO519:=td2 (uR qHO519) hb ho0 ho1;replace HO522:=td2 (uR qHO522) hb ho0 ho1;replace HO526:=td2 (uR qHO526) hb ho0 ho1;replace HO529:=td2 (uR qHO529) hb ho0 ho1;clear qHO512 qHO515 qHO519 qHO522 qHO526 qHO529;replace HO535:=td2 (uR ((rf3 HO535 BK547 (by decide) (.int .i64 t540) (.slice Ao68 t541.length co68) (.slice Ao69 t544.length co69)))) hb ho0 ho1;replace HO538:=td2 (uR ((rf3 HO538 BK547 (by decide) (.int .i64 t540) (.slice Ao68 t541.length co68) (.slice Ao69 t544.length co69)))) hb ho0 ho1;replace HO543:=td2 (uR ((rf3 HO543 BK547 (by decide) (.int .i64 t540) (.slice Ao68 t541.length co68) (.slice Ao69 t544.length co69)))) hb ho0 ho1;replace HO546:=td2 (uR ((rf3 HO546 BK547 (by decide) (.int .i64 t540) (.slice Ao68 t541.length co68) (.slice Ao69 t544.length co69)))) hb ho0 ho1;replace BK505:=zA (blk_below (g:=gb505) (o:=.cells #[.int .i64 a0_0,.slice A0_1 l0_1.length c0_1,.slice A0_2 l0_2.length c0_2] 49 (0,0)) (by (repeat refine up1 ?_);refine blk_far ?_ NB505_547.out _;(repeat refine up1 ?_);refine blk_far ?_ NB505_547.out _;(repeat refine up1 ?_);refine blk_far ?_ NB505_547.out _;(repeat refine up1 ?_);exact BK505.out) hb);replace BK506:=zA (blk_below (g:=gb506) (o:=.cells #[.int .i64 a1_0,.slice A1_1 l1_1.length c1_1,.slice A1_2 l1_2.length c1_2] 49 (0,0)) (by (repeat refine up1 ?_);refine blk_far ?_ NB506_547.out _;(repeat refine up1 ?_);refine blk_far ?_ NB506_547.out _;(repeat refine up1 ?_);refine blk_far ?_ NB506_547.out _;(repeat refine up1 ?_);exact BK506.out) hb);replace BK531:=zA (blk_below (g:=gb531) (o:=.cells #[.int .i64 t523,.slice Ao45 t524.length co45,.slice Ao47 t527.length co47] 51 (0,0)) (by (repeat refine up1 ?_);refine blk_far ?_ NB531_547.out _;(repeat refine up1 ?_);refine blk_far ?_ NB531_547.out _;(repeat refine up1 ?_);refine blk_far ?_ NB531_547.out _;(repeat refine up1 ?_);exact BK531.out) hb);replace BK539:=zA (blk_below (g:=gb539) (o:=.cells #[.int .i64 t532,.slice Ao57 t533.length co57,.slice Ao58 t536.length co58] 51 (0,0)) (by (repeat refine up1 ?_);refine blk_far ?_ NB539_547.out _;(repeat refine up1 ?_);refine blk_far ?_ NB539_547.out _;(repeat refine up1 ?_);refine blk_far ?_ NB539_547.out _;(repeat refine up1 ?_);exact BK539.out) hb);replace BK547:=zA (blk_below (g:=gb547) (o:=.cells #[.int .i64 t540,.slice Ao68 t541.length co68,.slice Ao69 t544.length co69] 51 (0,0)) (by (repeat refine up1 ?_);refine blk_put (cs:=#[.int .i64 t540,.slice Ao68 t541.length co68,.slice none 0 0]) ?_ 2 _ rfl;(repeat refine up1 ?_);refine blk_put (cs:=#[.int .i64 t540,.slice none 0 0,.slice none 0 0]) ?_ 1 _ rfl;(repeat refine up1 ?_);refine blk_put (cs:=#[.int .i64 0,.slice none 0 0,.slice none 0 0]) ?_ 0 _ rfl;(repeat refine up1 ?_);exact BK547.out) hb);replace HB:=xH HB hb;(try clear hb);(try clear ho0);(try clear ho1)) | ((with_reducible refine gate_dst (N:=12) rfl ?_);refine bx 12 #[.int .i64 0,.slice none 0 0,.slice none 0 0] 51 ?_;intro gb556 hg w72 hbox hb;replace HO512:=xR HO512 hb;replace HO515:=xR HO515 hb;replace HO519:=xR HO519 hb;replace HO522:=xR HO522 hb;replace HO526:=xR HO526 hb;replace HO529:=xR HO529 hb;replace HO535:=xR HO535 hb;replace HO538:=xR HO538 hb;replace HO543:=xR HO543 hb;replace HO546:=xR HO546 hb;replace HO551:=xR HO551 hb;replace HO554:=xR HO554 hb;have BK556:=zA (hbox);have GW556:=gq HB hg;have GE556:=gq HB hg;replace HB:=xH HB hb;have NB505_556:=zA ((by rw [hg];exact neL BK505 : gb505 ≠ gb556));have NB556_505:=zA ((by rw [hg];exact neG BK505 : gb556 ≠ gb505));replace BK505:=xB BK505 hb;have NB506_556:=zA ((by rw [hg];exact neL BK506 : gb506 ≠ gb556));have NB556_506:=zA ((by rw [hg];exact neG BK506 : gb556 ≠ gb506));replace BK506:=xB BK506 hb;have NB531_556:=zA ((by rw [hg];exact neL BK531 : gb531 ≠ gb556));have NB556_531:=zA ((by rw [hg];exact neG BK531 : gb556 ≠ gb531));replace BK531:=xB BK531 hb;have NB539_556:=zA ((by rw [hg];exact neL BK539 : gb539 ≠ gb556));have NB556_539:=zA ((by rw [hg];exact neG BK539 : gb556 ≠ gb539));replace BK539:=xB BK539 hb;have NB547_556:=zA ((by rw [hg];exact neL BK547 : gb547 ≠ gb556));have NB556_547:=zA ((by rw [hg];exact neG BK547 : gb556 ≠ gb547));replace BK547:=xB BK547 hb;have:=geI GE556;clear hb hbox hg;have hnb73:=NB556_505.out;have hnc73:=NB505_556.out;have hnb74:=NB556_506.out;have hnc74:=NB506_556.out;have hnb75:=NB556_531.out;have hnc75:=NB531_556.out;have hnb76:=NB556_539.out;have hnc76:=NB539_556.out;have hnb77:=NB556_547.out;have hnc77:=NB547_556.out;have hcz78_0:=bc BK556 0;have hcz78_1:=bc BK556 1;have hcz78_2:=bc BK556 2;have hfz78_0:=bf BK556 0;have hfz78_1:=bf BK556 1;have hfz78_2:=bf BK556 2;obtain ⟨Ao79,co79,eo79⟩:=Kd.R_slice HO551.out;subst eo79;obtain ⟨Ao80,co80,eo80⟩:=Kd.R_slice HO554.out;subst eo80))
   (try simp only [Act.put,ls,lz,ln])
   go_cut [57] (fun v57 wc=>∃ (kq : Nat) (x57_25 : Bool),v57 = .bool x57_25∧Aside0 (laws_FnExactMergeRules.j0 kq a2 t530 t555 x57_25 a0_0 l0_1 l0_2 a1_0 l1_1 l1_2 t523 t524 t527 t532 t533 t536 t540 t541 t544 t548 t549 t552 = some r)∧Aside0 (kq ≤ k)∧Aside0 (Kd.R (Kd.int .i64) 2 wc w.heap.size (fun k_=>ax k_ (.slice Ao47 t527.length co47)∧ax k_ (.slice Ao57 t533.length co57)∧ax k_ (.slice Ao58 t536.length co58)∧ax k_ (.slice Ao68 t541.length co68)∧ax k_ (.slice Ao69 t544.length co69)∧ax k_ (.slice Ao79 t549.length co79)∧ax k_ (.slice Ao80 t552.length co80)) (.slice Ao45 t524.length co45) t524)∧Aside0 (Kd.R (Kd.int .i64) 2 wc w.heap.size (fun k_=>ax k_ (.slice Ao45 t524.length co45)∧ax k_ (.slice Ao57 t533.length co57)∧ax k_ (.slice Ao58 t536.length co58)∧ax k_ (.slice Ao68 t541.length co68)∧ax k_ (.slice Ao69 t544.length co69)∧ax k_ (.slice Ao79 t549.length co79)∧ax k_ (.slice Ao80 t552.length co80)) (.slice Ao47 t527.length co47) t527)∧Aside0 (Kd.R (Kd.int .i64) 2 wc w.heap.size (fun k_=>ax k_ (.slice Ao45 t524.length co45)∧ax k_ (.slice Ao47 t527.length co47)∧ax k_ (.slice Ao58 t536.length co58)∧ax k_ (.slice Ao68 t541.length co68)∧ax k_ (.slice Ao69 t544.length co69)∧ax k_ (.slice Ao79 t549.length co79)∧ax k_ (.slice Ao80 t552.length co80)) (.slice Ao57 t533.length co57) t533)∧Aside0 (Kd.R (Kd.int .i64) 2 wc w.heap.size (fun k_=>ax k_ (.slice Ao45 t524.length co45)∧ax k_ (.slice Ao47 t527.length co47)∧ax k_ (.slice Ao57 t533.length co57)∧ax k_ (.slice Ao68 t541.length co68)∧ax k_ (.slice Ao69 t544.length co69)∧ax k_ (.slice Ao79 t549.length co79)∧ax k_ (.slice Ao80 t552.length co80)) (.slice Ao58 t536.length co58) t536)∧Aside0 (Kd.R (Kd.int .i64) 2 wc w.heap.size (fun k_=>ax k_ (.slice Ao45 t524.length co45)∧ax k_ (.slice Ao47 t527.length co47)∧ax k_ (.slice Ao57 t533.length co57)∧ax k_ (.slice Ao58 t536.length co58)∧ax k_ (.slice Ao69 t544.length co69)∧ax k_ (.slice Ao79 t549.length co79)∧ax k_ (.slice Ao80 t552.length co80)) (.slice Ao68 t541.length co68) t541)∧Aside0 (Kd.R (Kd.int .i64) 2 wc w.heap.size (fun k_=>ax k_ (.slice Ao45 t524.length co45)∧ax k_ (.slice Ao47 t527.length co47)∧ax k_ (.slice Ao57 t533.length co57)∧ax k_ (.slice Ao58 t536.length co58)∧ax k_ (.slice Ao68 t541.length co68)∧ax k_ (.slice Ao79 t549.length co79)∧ax k_ (.slice Ao80 t552.length co80)) (.slice Ao69 t544.length co69) t544)∧Aside0 (Kd.R (Kd.int .i64) 2 wc w.heap.size (fun k_=>ax k_ (.slice Ao45 t524.length co45)∧ax k_ (.slice Ao47 t527.length co47)∧ax k_ (.slice Ao57 t533.length co57)∧ax k_ (.slice Ao58 t536.length co58)∧ax k_ (.slice Ao68 t541.length co68)∧ax k_ (.slice Ao69 t544.length co69)∧ax k_ (.slice Ao80 t552.length co80)) (.slice Ao79 t549.length co79) t549)∧Aside0 (Kd.R (Kd.int .i64) 2 wc w.heap.size (fun k_=>ax k_ (.slice Ao45 t524.length co45)∧ax k_ (.slice Ao47 t527.length co47)∧ax k_ (.slice Ao57 t533.length co57)∧ax k_ (.slice Ao58 t536.length co58)∧ax k_ (.slice Ao68 t541.length co68)∧ax k_ (.slice Ao69 t544.length co69)∧ax k_ (.slice Ao79 t549.length co79)) (.slice Ao80 t552.length co80) t552)∧Aside0 (wc.heap[gb505]? = some (.cells #[.int .i64 a0_0,(.slice A0_1 l0_1.length c0_1),(.slice A0_2 l0_2.length c0_2)] 49 (0,0)))∧Aside0 (wc.heap[gb506]? = some (.cells #[.int .i64 a1_0,(.slice A1_1 l1_1.length c1_1),(.slice A1_2 l1_2.length c1_2)] 49 (0,0)))∧Aside0 (wc.heap[gb531]? = some (.cells #[.int .i64 t523,(.slice Ao45 t524.length co45),(.slice Ao47 t527.length co47)] 51 (0,0)))∧Aside0 (wc.heap[gb539]? = some (.cells #[.int .i64 t532,(.slice Ao57 t533.length co57),(.slice Ao58 t536.length co58)] 51 (0,0)))∧Aside0 (wc.heap[gb547]? = some (.cells #[.int .i64 t540,(.slice Ao68 t541.length co68),(.slice Ao69 t544.length co69)] 51 (0,0)))∧Aside0 (wc.heap[gb556]? = some (.cells #[.int .i64 t548,(.slice Ao79 t549.length co79),(.slice Ao80 t552.length co80)] 51 (0,0)))∧Aside0 (Below w.heap.size w wc))
   case first =>
    have H:=HC26.out
    clear HC26
    replace H:=Option.bind_eq_some_iff.mp H
    obtain ⟨t557,A810,H⟩:=H
    replace H : (if t557 = true then (laws_FnExactMergeRules.j0 k a2 t530 t555 (t555 != t530) a0_0 l0_1 l0_2 a1_0 l1_1 l1_2 t523 t524 t527 t532 t533 t536 t540 t541 t544 t548 t549 t552) else (laws_FnExactMergeRules.j0 k a2 t530 t555 true a0_0 l0_1 l0_2 a1_0 l1_1 l1_2 t523 t524 t527 t532 t533 t536 t540 t541 t544 t548 t549 t552)) = some r:=H
    have A81:=zA A810
    clear A810
    by_cases c82 : t557 = true
    ·subst c82
     have H1 : (laws_FnExactMergeRules.j0 k a2 t530 t555 (t555 != t530) a0_0 l0_1 l0_2 a1_0 l1_1 l1_2 t523 t524 t527 t532 t533 t536 t540 t541 t544 t548 t549 t552) = some r:=by rw [if_pos rfl] at H;exact H
     clear H
     have H:=H1
     clear H1
     have H':=zA H
     clear H
     have hnb83:=NB556_505.out;have hnc83:=NB505_556.out;have hnb84:=NB556_506.out;have hnc84:=NB506_556.out;have hnb85:=NB556_531.out;have hnc85:=NB531_556.out;have hnb86:=NB556_539.out;have hnc86:=NB539_556.out;have hnb87:=NB556_547.out;have hnc87:=NB547_556.out
     have hcz88_0:=bc BK556 0
     have hcz88_1:=bc BK556 1
     have hcz88_2:=bc BK556 2
     have hfz88_0:=bf BK556 0
     have hfz88_1:=bf BK556 1
     have hfz88_2:=bf BK556 2
     have hnb89:=NB531_505.out;have hnc89:=NB505_531.out;have hnb90:=NB531_506.out;have hnc90:=NB506_531.out;have hnb91:=NB531_539.out;have hnc91:=NB539_531.out;have hnb92:=NB531_547.out;have hnc92:=NB547_531.out
     have hcz93_0:=bc BK531 0
     have hcz93_1:=bc BK531 1
     have hcz93_2:=bc BK531 2
     have hfz93_0:=bf BK531 0
     have hfz93_1:=bf BK531 1
     have hfz93_2:=bf BK531 2
     go_wp2_with (first | ((with_reducible refine gate_callee (f:=29) rfl ?_);refine gL (some 51) Try.func29 #[.agg #[.int .i64 t548,.slice Ao79 t549.length co79,.slice Ao80 t552.length co80],.agg #[.int .i64 t523,.slice Ao45 t524.length co45,.slice Ao47 t527.length co47]] ?_;(with_reducible refine (laws_eqRule.calls k t548 _ _ t549 _ _ t552 t523 _ _ t524 _ _ t527 true _ ?side1 ?side2 ?side3 ?side4 ?side5 ?side6 ?side7 ?side8 A81.out).mono ?_);(case side1=>exact rc (uR ((rf3 HO551 BK556 (by decide) (.int .i64 t548) (.slice Ao79 t549.length co79) (.slice Ao80 t552.length co80)))));(case side2=>exact (Kd.R_reads' HO551.out).2.1);(case side3=>exact rc (uR ((rf3 HO554 BK556 (by decide) (.int .i64 t548) (.slice Ao79 t549.length co79) (.slice Ao80 t552.length co80)))));(case side4=>exact (Kd.R_reads' HO554.out).2.1);(case side5=>exact rc (uR ((rf3 HO526 BK556 (by decide) (.int .i64 t548) (.slice Ao79 t549.length co79) (.slice Ao80 t552.length co80)))));(case side6=>exact (Kd.R_reads' HO526.out).2.1);(case side7=>exact rc (uR ((rf3 HO529 BK556 (by decide) (.int .i64 t548) (.slice Ao79 t549.length co79) (.slice Ao80 t552.length co80)))));(case side8=>exact (Kd.R_reads' HO529.out).2.1);rintro e w94 ⟨rfl,hb⟩;refine ⟨_,rfl,?_⟩;replace HO512:=zA (Kd.R_below (uR ((rf3 HO512 BK556 (by decide) (.int .i64 t548) (.slice Ao79 t549.length co79) (.slice Ao80 t552.length co80)))) hb);replace HO515:=zA (Kd.R_below (uR ((rf3 HO515 BK556 (by decide) (.int .i64 t548) (.slice Ao79 t549.length co79) (.slice Ao80 t552.length co80)))) hb);replace HO519:=zA (Kd.R_below (uR ((rf3 HO519 BK556 (by decide) (.int .i64 t548) (.slice Ao79 t549.length co79) (.slice Ao80 t552.length co80)))) hb);replace HO522:=zA (Kd.R_below (uR ((rf3 HO522 BK556 (by decide) (.int .i64 t548) (.slice Ao79 t549.length co79) (.slice Ao80 t552.length co80)))) hb);replace HO526:=zA (Kd.R_below (uR ((rf3 HO526 BK556 (by decide) (.int .i64 t548) (.slice Ao79 t549.length co79) (.slice Ao80 t552.length co80)))) hb);replace HO529:=zA (Kd.R_below (uR ((rf3 HO529 BK556 (by decide) (.int .i64 t548) (.slice Ao79 t549.length co79) (.slice Ao80 t552.length co80)))) hb);replace HO535:=zA (Kd.R_below (uR ((rf3 HO535 BK556 (by decide) (.int .i64 t548) (.slice Ao79 t549.length co79) (.slice Ao80 t552.length co80)))) hb);replace HO538:=zA (Kd.R_below (uR ((rf3 HO538 BK556 (by decide) (.int .i64 t548) (.slice Ao79 t549.length co79) (.slice Ao80 t552.length co80)))) hb);replace HO543:=zA (Kd.R_below (uR ((rf3 HO543 BK556 (by decide) (.int .i64 t548) (.slice Ao79 t549.length co79) (.slice Ao80 t552.length co80)))) hb);replace HO546:=zA (Kd.R_below (uR ((rf3 HO546 BK556 (by decide) (.int .i64 t548) (.slice Ao79 t549.length co79) (.slice Ao80 t552.length co80)))) hb);replace HO551:=zA (Kd.R_below (uR ((rf3 HO551 BK556 (by decide) (.int .i64 t548) (.slice Ao79 t549.length co79) (.slice Ao80 t552.length co80)))) hb);replace HO554:=zA (Kd.R_below (uR ((rf3 HO554 BK556 (by decide) (.int .i64 t548) (.slice Ao79 t549.length co79) (.slice Ao80 t552.length co80)))) hb);replace BK505:=zA (blk_below (g:=gb505) (o:=.cells #[.int .i64 a0_0,.slice A0_1 l0_1.length c0_1,.slice A0_2 l0_2.length c0_2] 49 (0,0)) (by (repeat refine up1 ?_);refine blk_far ?_ NB505_556.out _;(repeat refine up1 ?_);refine blk_far ?_ NB505_556.out _;(repeat refine up1 ?_);refine blk_far ?_ NB505_556.out _;(repeat refine up1 ?_);exact BK505.out) hb);replace BK506:=zA (blk_below (g:=gb506) (o:=.cells #[.int .i64 a1_0,.slice A1_1 l1_1.length c1_1,.slice A1_2 l1_2.length c1_2] 49 (0,0)) (by (repeat refine up1 ?_);refine blk_far ?_ NB506_556.out _;(repeat refine up1 ?_);refine blk_far ?_ NB506_556.out _;(repeat refine up1 ?_);refine blk_far ?_ NB506_556.out _;(repeat refine up1 ?_);exact BK506.out) hb);replace BK531:=zA (blk_below (g:=gb531) (o:=.cells #[.int .i64 t523,.slice Ao45 t524.length co45,.slice Ao47 t527.length co47] 51 (0,0)) (by (repeat refine up1 ?_);refine blk_far ?_ NB531_556.out _;(repeat refine up1 ?_);refine blk_far ?_ NB531_556.out _;(repeat refine up1 ?_);refine blk_far ?_ NB531_556.out _;(repeat refine up1 ?_);exact BK531.out) hb);replace BK539:=zA (blk_below (g:=gb539) (o:=.cells #[.int .i64 t532,.slice Ao57 t533.length co57,.slice Ao58 t536.length co58] 51 (0,0)) (by (repeat refine up1 ?_);refine blk_far ?_ NB539_556.out _;(repeat refine up1 ?_);refine blk_far ?_ NB539_556.out _;(repeat refine up1 ?_);refine blk_far ?_ NB539_556.out _;(repeat refine up1 ?_);exact BK539.out) hb);replace BK547:=zA (blk_below (g:=gb547) (o:=.cells #[.int .i64 t540,.slice Ao68 t541.length co68,.slice Ao69 t544.length co69] 51 (0,0)) (by (repeat refine up1 ?_);refine blk_far ?_ NB547_556.out _;(repeat refine up1 ?_);refine blk_far ?_ NB547_556.out _;(repeat refine up1 ?_);refine blk_far ?_ NB547_556.out _;(repeat refine up1 ?_);exact BK547.out) hb);replace BK556:=zA (blk_below (g:=gb556) (o:=.cells #[.int .i64 t548,.slice Ao79 t549.length co79,.slice Ao80 t552.length co80] 51 (0,0)) (by (repeat refine up1 ?_);refine blk_put (cs:=#[.int .i64 t548,.slice Ao79 t549.length co79,.slice none 0 0]) ?_ 2 _ rfl;(repeat refine up1 ?_);refine blk_put (cs:=#[.int .i64 t548,.slice none 0 0,.slice none 0 0]) ?_ 1 _ rfl;(repeat refine up1 ?_);refine blk_put (cs:=#[.int .i64 0,.slice none 0 0,.slice none 0 0]) ?_ 0 _ rfl;(repeat refine up1 ?_);exact BK556.out) hb);replace HB:=xH HB hb;(try clear hb)))
     go_meet
     case rel=>exact ⟨_,((t555 != t530)),(by first | rfl | (simp;done) | (simp [*];done)),H',⟨by first | omega | exact Nat.le_refl _⟩,⟨uR (Kd.R_mono HO526.out (fun _ ⟨⟨⟨⟨⟨⟨⟨_,_,_,_,a⟩,b⟩,c⟩,d⟩,f⟩,g⟩,h⟩=>⟨a,b,c,d,f,g,h⟩))⟩,⟨uR (Kd.R_mono HO529.out (fun _ ⟨⟨⟨⟨⟨⟨⟨_,_,_,_,a⟩,b⟩,c⟩,d⟩,f⟩,g⟩,h⟩=>⟨a,b,c,d,f,g,h⟩))⟩,⟨uR (Kd.R_mono HO535.out (fun _ ⟨⟨⟨⟨⟨⟨⟨⟨⟨⟨c,_⟩,_⟩,_⟩,_⟩,a⟩,b⟩,d⟩,f⟩,g⟩,h⟩=>⟨a,b,c,d,f,g,h⟩))⟩,⟨uR (Kd.R_mono HO538.out (fun _ ⟨⟨⟨⟨⟨⟨⟨⟨⟨⟨c,_⟩,_⟩,_⟩,_⟩,a⟩,b⟩,d⟩,f⟩,g⟩,h⟩=>⟨a,b,c,d,f,g,h⟩))⟩,⟨uR (Kd.R_mono HO543.out (fun _ ⟨⟨⟨⟨⟨⟨⟨⟨⟨⟨f,_⟩,_⟩,_⟩,_⟩,a⟩,b⟩,c⟩,d⟩,g⟩,h⟩=>⟨a,b,c,d,f,g,h⟩))⟩,⟨uR (Kd.R_mono HO546.out (fun _ ⟨⟨⟨⟨⟨⟨⟨⟨⟨⟨f,_⟩,_⟩,_⟩,_⟩,a⟩,b⟩,c⟩,d⟩,g⟩,h⟩=>⟨a,b,c,d,f,g,h⟩))⟩,⟨uR (Kd.R_mono HO551.out (fun _ ⟨⟨⟨⟨⟨⟨⟨⟨⟨⟨h,_⟩,_⟩,_⟩,_⟩,a⟩,b⟩,c⟩,d⟩,f⟩,g⟩=>⟨a,b,c,d,f,g,h⟩))⟩,⟨uR (Kd.R_mono HO554.out (fun _ ⟨⟨⟨⟨⟨⟨⟨⟨⟨⟨h,_⟩,_⟩,_⟩,_⟩,a⟩,b⟩,c⟩,d⟩,f⟩,g⟩=>⟨a,b,c,d,f,g,h⟩))⟩,⟨uB BK505.out⟩,⟨uB BK506.out⟩,⟨uB BK531.out⟩,⟨uB BK539.out⟩,⟨uB BK547.out⟩,⟨uB BK556.out⟩,⟨uH HB.out⟩⟩
    ·replace c82:=Bool.eq_false_iff.mpr c82
     subst c82
     have H1 : (laws_FnExactMergeRules.j0 k a2 t530 t555 true a0_0 l0_1 l0_2 a1_0 l1_1 l1_2 t523 t524 t527 t532 t533 t536 t540 t541 t544 t548 t549 t552) = some r:=by rw [if_neg (show ¬ (false = true) by decide)] at H;exact H
     clear H
     have H:=H1
     clear H1
     have H':=zA H
     clear H
     have hnb95:=NB556_505.out;have hnc95:=NB505_556.out;have hnb96:=NB556_506.out;have hnc96:=NB506_556.out;have hnb97:=NB556_531.out;have hnc97:=NB531_556.out;have hnb98:=NB556_539.out;have hnc98:=NB539_556.out;have hnb99:=NB556_547.out;have hnc99:=NB547_556.out
     have hcz100_0:=bc BK556 0
     have hcz100_1:=bc BK556 1
     have hcz100_2:=bc BK556 2
     have hfz100_0:=bf BK556 0
     have hfz100_1:=bf BK556 1
     have hfz100_2:=bf BK556 2
     have hnb101:=NB531_505.out;have hnc101:=NB505_531.out;have hnb102:=NB531_506.out;have hnc102:=NB506_531.out;have hnb103:=NB531_539.out;have hnc103:=NB539_531.out;have hnb104:=NB531_547.out;have hnc104:=NB547_531.out
     have hcz105_0:=bc BK531 0
     have hcz105_1:=bc BK531 1
     have hcz105_2:=bc BK531 2
     have hfz105_0:=bf BK531 0
     have hfz105_1:=bf BK531 1
     have hfz105_2:=bf BK531 2
     go_wp2_with (first | ((with_reducible refine gate_callee (f:=29) rfl ?_);refine gL (some 51) Try.func29 #[.agg #[.int .i64 t548,.slice Ao79 t549.length co79,.slice Ao80 t552.length co80],.agg #[.int .i64 t523,.slice Ao45 t524.length co45,.slice Ao47 t527.length co47]] ?_;(with_reducible refine (laws_eqRule.calls k t548 _ _ t549 _ _ t552 t523 _ _ t524 _ _ t527 false _ ?side1 ?side2 ?side3 ?side4 ?side5 ?side6 ?side7 ?side8 A81.out).mono ?_);(case side1=>exact rc (uR ((rf3 HO551 BK556 (by decide) (.int .i64 t548) (.slice Ao79 t549.length co79) (.slice Ao80 t552.length co80)))));(case side2=>exact (Kd.R_reads' HO551.out).2.1);(case side3=>exact rc (uR ((rf3 HO554 BK556 (by decide) (.int .i64 t548) (.slice Ao79 t549.length co79) (.slice Ao80 t552.length co80)))));(case side4=>exact (Kd.R_reads' HO554.out).2.1);(case side5=>exact rc (uR ((rf3 HO526 BK556 (by decide) (.int .i64 t548) (.slice Ao79 t549.length co79) (.slice Ao80 t552.length co80)))));(case side6=>exact (Kd.R_reads' HO526.out).2.1);(case side7=>exact rc (uR ((rf3 HO529 BK556 (by decide) (.int .i64 t548) (.slice Ao79 t549.length co79) (.slice Ao80 t552.length co80)))));(case side8=>exact (Kd.R_reads' HO529.out).2.1);rintro e w106 ⟨rfl,hb⟩;refine ⟨_,rfl,?_⟩;replace HO512:=zA (Kd.R_below (uR ((rf3 HO512 BK556 (by decide) (.int .i64 t548) (.slice Ao79 t549.length co79) (.slice Ao80 t552.length co80)))) hb);replace HO515:=zA (Kd.R_below (uR ((rf3 HO515 BK556 (by decide) (.int .i64 t548) (.slice Ao79 t549.length co79) (.slice Ao80 t552.length co80)))) hb);replace HO519:=zA (Kd.R_below (uR ((rf3 HO519 BK556 (by decide) (.int .i64 t548) (.slice Ao79 t549.length co79) (.slice Ao80 t552.length co80)))) hb);replace HO522:=zA (Kd.R_below (uR ((rf3 HO522 BK556 (by decide) (.int .i64 t548) (.slice Ao79 t549.length co79) (.slice Ao80 t552.length co80)))) hb);replace HO526:=zA (Kd.R_below (uR ((rf3 HO526 BK556 (by decide) (.int .i64 t548) (.slice Ao79 t549.length co79) (.slice Ao80 t552.length co80)))) hb);replace HO529:=zA (Kd.R_below (uR ((rf3 HO529 BK556 (by decide) (.int .i64 t548) (.slice Ao79 t549.length co79) (.slice Ao80 t552.length co80)))) hb);replace HO535:=zA (Kd.R_below (uR ((rf3 HO535 BK556 (by decide) (.int .i64 t548) (.slice Ao79 t549.length co79) (.slice Ao80 t552.length co80)))) hb);replace HO538:=zA (Kd.R_below (uR ((rf3 HO538 BK556 (by decide) (.int .i64 t548) (.slice Ao79 t549.length co79) (.slice Ao80 t552.length co80)))) hb);replace HO543:=zA (Kd.R_below (uR ((rf3 HO543 BK556 (by decide) (.int .i64 t548) (.slice Ao79 t549.length co79) (.slice Ao80 t552.length co80)))) hb);replace HO546:=zA (Kd.R_below (uR ((rf3 HO546 BK556 (by decide) (.int .i64 t548) (.slice Ao79 t549.length co79) (.slice Ao80 t552.length co80)))) hb);replace HO551:=zA (Kd.R_below (uR ((rf3 HO551 BK556 (by decide) (.int .i64 t548) (.slice Ao79 t549.length co79) (.slice Ao80 t552.length co80)))) hb);replace HO554:=zA (Kd.R_below (uR ((rf3 HO554 BK556 (by decide) (.int .i64 t548) (.slice Ao79 t549.length co79) (.slice Ao80 t552.length co80)))) hb);replace BK505:=zA (blk_below (g:=gb505) (o:=.cells #[.int .i64 a0_0,.slice A0_1 l0_1.length c0_1,.slice A0_2 l0_2.length c0_2] 49 (0,0)) (by (repeat refine up1 ?_);refine blk_far ?_ NB505_556.out _;(repeat refine up1 ?_);refine blk_far ?_ NB505_556.out _;(repeat refine up1 ?_);refine blk_far ?_ NB505_556.out _;(repeat refine up1 ?_);exact BK505.out) hb);replace BK506:=zA (blk_below (g:=gb506) (o:=.cells #[.int .i64 a1_0,.slice A1_1 l1_1.length c1_1,.slice A1_2 l1_2.length c1_2] 49 (0,0)) (by (repeat refine up1 ?_);refine blk_far ?_ NB506_556.out _;(repeat refine up1 ?_);refine blk_far ?_ NB506_556.out _;(repeat refine up1 ?_);refine blk_far ?_ NB506_556.out _;(repeat refine up1 ?_);exact BK506.out) hb);replace BK531:=zA (blk_below (g:=gb531) (o:=.cells #[.int .i64 t523,.slice Ao45 t524.length co45,.slice Ao47 t527.length co47] 51 (0,0)) (by (repeat refine up1 ?_);refine blk_far ?_ NB531_556.out _;(repeat refine up1 ?_);refine blk_far ?_ NB531_556.out _;(repeat refine up1 ?_);refine blk_far ?_ NB531_556.out _;(repeat refine up1 ?_);exact BK531.out) hb);replace BK539:=zA (blk_below (g:=gb539) (o:=.cells #[.int .i64 t532,.slice Ao57 t533.length co57,.slice Ao58 t536.length co58] 51 (0,0)) (by (repeat refine up1 ?_);refine blk_far ?_ NB539_556.out _;(repeat refine up1 ?_);refine blk_far ?_ NB539_556.out _;(repeat refine up1 ?_);refine blk_far ?_ NB539_556.out _;(repeat refine up1 ?_);exact BK539.out) hb);replace BK547:=zA (blk_below (g:=gb547) (o:=.cells #[.int .i64 t540,.slice Ao68 t541.length co68,.slice Ao69 t544.length co69] 51 (0,0)) (by (repeat refine up1 ?_);refine blk_far ?_ NB547_556.out _;(repeat refine up1 ?_);refine blk_far ?_ NB547_556.out _;(repeat refine up1 ?_);refine blk_far ?_ NB547_556.out _;(repeat refine up1 ?_);exact BK547.out) hb);replace BK556:=zA (blk_below (g:=gb556) (o:=.cells #[.int .i64 t548,.slice Ao79 t549.length co79,.slice Ao80 t552.length co80] 51 (0,0)) (by (repeat refine up1 ?_);refine blk_put (cs:=#[.int .i64 t548,.slice Ao79 t549.length co79,.slice none 0 0]) ?_ 2 _ rfl;(repeat refine up1 ?_);refine blk_put (cs:=#[.int .i64 t548,.slice none 0 0,.slice none 0 0]) ?_ 1 _ rfl;(repeat refine up1 ?_);refine blk_put (cs:=#[.int .i64 0,.slice none 0 0,.slice none 0 0]) ?_ 0 _ rfl;(repeat refine up1 ?_);exact BK556.out) hb);replace HB:=xH HB hb;(try clear hb)))
     go_meet
     case rel=>exact ⟨_,(true),(by first | rfl | (simp;done) | (simp [*];done)),H',⟨by first | omega | exact Nat.le_refl _⟩,⟨uR (Kd.R_mono HO526.out (fun _ ⟨⟨⟨⟨⟨⟨⟨_,_,_,_,a⟩,b⟩,c⟩,d⟩,f⟩,g⟩,h⟩=>⟨a,b,c,d,f,g,h⟩))⟩,⟨uR (Kd.R_mono HO529.out (fun _ ⟨⟨⟨⟨⟨⟨⟨_,_,_,_,a⟩,b⟩,c⟩,d⟩,f⟩,g⟩,h⟩=>⟨a,b,c,d,f,g,h⟩))⟩,⟨uR (Kd.R_mono HO535.out (fun _ ⟨⟨⟨⟨⟨⟨⟨⟨⟨⟨c,_⟩,_⟩,_⟩,_⟩,a⟩,b⟩,d⟩,f⟩,g⟩,h⟩=>⟨a,b,c,d,f,g,h⟩))⟩,⟨uR (Kd.R_mono HO538.out (fun _ ⟨⟨⟨⟨⟨⟨⟨⟨⟨⟨c,_⟩,_⟩,_⟩,_⟩,a⟩,b⟩,d⟩,f⟩,g⟩,h⟩=>⟨a,b,c,d,f,g,h⟩))⟩,⟨uR (Kd.R_mono HO543.out (fun _ ⟨⟨⟨⟨⟨⟨⟨⟨⟨⟨f,_⟩,_⟩,_⟩,_⟩,a⟩,b⟩,c⟩,d⟩,g⟩,h⟩=>⟨a,b,c,d,f,g,h⟩))⟩,⟨uR (Kd.R_mono HO546.out (fun _ ⟨⟨⟨⟨⟨⟨⟨⟨⟨⟨f,_⟩,_⟩,_⟩,_⟩,a⟩,b⟩,c⟩,d⟩,g⟩,h⟩=>⟨a,b,c,d,f,g,h⟩))⟩,⟨uR (Kd.R_mono HO551.out (fun _ ⟨⟨⟨⟨⟨⟨⟨⟨⟨⟨h,_⟩,_⟩,_⟩,_⟩,a⟩,b⟩,c⟩,d⟩,f⟩,g⟩=>⟨a,b,c,d,f,g,h⟩))⟩,⟨uR (Kd.R_mono HO554.out (fun _ ⟨⟨⟨⟨⟨⟨⟨⟨⟨⟨h,_⟩,_⟩,_⟩,_⟩,a⟩,b⟩,c⟩,d⟩,f⟩,g⟩=>⟨a,b,c,d,f,g,h⟩))⟩,⟨uB BK505.out⟩,⟨uB BK506.out⟩,⟨uB BK531.out⟩,⟨uB BK539.out⟩,⟨uB BK547.out⟩,⟨uB BK556.out⟩,⟨uH HB.out⟩⟩
   case rest =>
    clear HC26
    (try clear c1);(try clear c2);(try clear p2);(try clear c4);(try clear c5);(try clear c6);(try clear c7);(try clear c8);(try clear c9);(try clear c10);(try clear c26);(try clear c27);(try clear c28);(try clear c29);(try clear c49);(try clear c53);(try clear c54);(try clear c55);(try clear c59);(try clear c63);(try clear c64);(try clear c65);(try clear c66);(try clear c73);(try clear c74);(try clear c75)
    (try clear c76);(try clear c77);(try clear c82);(try clear c83);(try clear c84);(try clear c85);(try clear c86);(try clear c87);(try clear c89);(try clear c90);(try clear c91);(try clear c92);(try clear c95);(try clear c96);(try clear c97);(try clear c98);(try clear c99);(try clear c101);(try clear c102);(try clear c103);(try clear c104);(try clear hcz100_0);(try clear hcz100_1);(try clear hcz100_2)
    (try clear hcz105_0);(try clear hcz105_1);(try clear hcz105_2);(try clear hcz50_0);(try clear hcz50_1);(try clear hcz50_2);(try clear hcz56_0);(try clear hcz56_1);(try clear hcz56_2);(try clear hcz60_0);(try clear hcz60_1);(try clear hcz60_2);(try clear hcz67_0);(try clear hcz67_1);(try clear hcz67_2);(try clear hcz70_0);(try clear hcz70_1);(try clear hcz70_2);(try clear hcz78_0);(try clear hcz78_1)
    (try clear hcz78_2);(try clear hcz88_0);(try clear hcz88_1);(try clear hcz88_2);(try clear hcz93_0);(try clear hcz93_1);(try clear hcz93_2);(try clear hfz100_0);(try clear hfz100_1);(try clear hfz100_2);(try clear hfz105_0);(try clear hfz105_1);(try clear hfz105_2);(try clear hfz50_0);(try clear hfz50_1);(try clear hfz50_2);(try clear hfz56_0);(try clear hfz56_1);(try clear hfz56_2);(try clear hfz60_0)
    (try clear hfz60_1);(try clear hfz60_2);(try clear hfz67_0);(try clear hfz67_1);(try clear hfz67_2);(try clear hfz70_0);(try clear hfz70_1);(try clear hfz70_2);(try clear hfz78_0);(try clear hfz78_1);(try clear hfz78_2);(try clear hfz88_0);(try clear hfz88_1);(try clear hfz88_2);(try clear hfz93_0);(try clear hfz93_1);(try clear hfz93_2)
    obtain ⟨kq,x57_25,rfl,HA,HJ25,HO_532001,HO_532002,HO_540001,HO_540002,HO_548001,HO_548002,HO_557001,HO_557002,BK505,BK506,BK531,BK539,BK547,BK556,HB⟩:=hcut
    cases kq with
    | zero=>exact absurd HA.out (by simp [laws_FnExactMergeRules.j0])
    | succ kj25 =>
     have H:=HA.out
     clear HA
     simp only [laws_FnExactMergeRules.j0] at H
     by_cases c107 : x57_25 = true
     ·subst c107
      have H1 : (some false) = some r:=by rw [if_pos rfl] at H;exact H
      clear H
      have H:=H1
      clear H1
      rw [HRT.out] at H
      exact absurd H (by simp)
     ·replace c107:=Bool.eq_false_iff.mpr c107
      subst c107
      have H1 : ((laws_toRule.f kj25 a0_0 l0_1 l0_2).bind fun bt558=>((laws_eqRule.f kj25 t532 t533 t536 bt558.1 bt558.2.1 bt558.2.2).bind fun t565=>(if t565 = true then ((laws_toRule.f kj25 a1_0 l1_1 l1_2).bind fun bt566=>((laws_eqRule.f kj25 t540 t541 t544 bt566.1 bt566.2.1 bt566.2.2).bind fun t573=>(if t573 = true then ((laws_markRule.f kj25 t532 t533 t536 1).bind fun bt574=>((laws_markRule.f kj25 t540 t541 t544 bt574.1).bind fun bt577=>(if bt577.1 < 0 then (laws_FnExactMergeRules.j1 kj25 a2 t530 true a0_0 l0_1 l0_2 a1_0 l1_1 l1_2 t523 t524 t527 t548 t549 t552) else ((laws_eqRule.f kj25 t548 t549 t552 t523 t524 t527).bind fun t580=>(if t580 = true then (laws_FnExactMergeRules.j1 kj25 a2 t530 (t555 != t530) a0_0 l0_1 l0_2 a1_0 l1_1 l1_2 t523 t524 t527 t548 t549 t552) else (laws_FnExactMergeRules.j1 kj25 a2 t530 true a0_0 l0_1 l0_2 a1_0 l1_1 l1_2 t523 t524 t527 t548 t549 t552)))))) else (some false)))) else (some false)))) = some r:=by rw [if_neg (show ¬ (false = true) by decide)] at H;exact H
      clear H
      have H:=H1
      clear H1
      replace H:=Option.bind_eq_some_iff.mp H
      obtain ⟨⟨t558,t559,t562⟩,A1080,H⟩:=H
      replace H : ((laws_eqRule.f kj25 t532 t533 t536 t558 t559 t562).bind fun t565=>(if t565 = true then ((laws_toRule.f kj25 a1_0 l1_1 l1_2).bind fun bt566=>((laws_eqRule.f kj25 t540 t541 t544 bt566.1 bt566.2.1 bt566.2.2).bind fun t573=>(if t573 = true then ((laws_markRule.f kj25 t532 t533 t536 1).bind fun bt574=>((laws_markRule.f kj25 t540 t541 t544 bt574.1).bind fun bt577=>(if bt577.1 < 0 then (laws_FnExactMergeRules.j1 kj25 a2 t530 true a0_0 l0_1 l0_2 a1_0 l1_1 l1_2 t523 t524 t527 t548 t549 t552) else ((laws_eqRule.f kj25 t548 t549 t552 t523 t524 t527).bind fun t580=>(if t580 = true then (laws_FnExactMergeRules.j1 kj25 a2 t530 (t555 != t530) a0_0 l0_1 l0_2 a1_0 l1_1 l1_2 t523 t524 t527 t548 t549 t552) else (laws_FnExactMergeRules.j1 kj25 a2 t530 true a0_0 l0_1 l0_2 a1_0 l1_1 l1_2 t523 t524 t527 t548 t549 t552)))))) else (some false)))) else (some false))) = some r:=H
      have A108:=zA A1080
      clear A1080
      replace H:=Option.bind_eq_some_iff.mp H
      obtain ⟨t565,A1090,H⟩:=H
      replace H : (if t565 = true then ((laws_toRule.f kj25 a1_0 l1_1 l1_2).bind fun bt566=>((laws_eqRule.f kj25 t540 t541 t544 bt566.1 bt566.2.1 bt566.2.2).bind fun t573=>(if t573 = true then ((laws_markRule.f kj25 t532 t533 t536 1).bind fun bt574=>((laws_markRule.f kj25 t540 t541 t544 bt574.1).bind fun bt577=>(if bt577.1 < 0 then (laws_FnExactMergeRules.j1 kj25 a2 t530 true a0_0 l0_1 l0_2 a1_0 l1_1 l1_2 t523 t524 t527 t548 t549 t552) else ((laws_eqRule.f kj25 t548 t549 t552 t523 t524 t527).bind fun t580=>(if t580 = true then (laws_FnExactMergeRules.j1 kj25 a2 t530 (t555 != t530) a0_0 l0_1 l0_2 a1_0 l1_1 l1_2 t523 t524 t527 t548 t549 t552) else (laws_FnExactMergeRules.j1 kj25 a2 t530 true a0_0 l0_1 l0_2 a1_0 l1_1 l1_2 t523 t524 t527 t548 t549 t552)))))) else (some false)))) else (some false)) = some r:=H
      have A109:=zA A1090
      clear A1090
      by_cases c110 : t565 = true
      ·subst c110
       have H1 : ((laws_toRule.f kj25 a1_0 l1_1 l1_2).bind fun bt566=>((laws_eqRule.f kj25 t540 t541 t544 bt566.1 bt566.2.1 bt566.2.2).bind fun t573=>(if t573 = true then ((laws_markRule.f kj25 t532 t533 t536 1).bind fun bt574=>((laws_markRule.f kj25 t540 t541 t544 bt574.1).bind fun bt577=>(if bt577.1 < 0 then (laws_FnExactMergeRules.j1 kj25 a2 t530 true a0_0 l0_1 l0_2 a1_0 l1_1 l1_2 t523 t524 t527 t548 t549 t552) else ((laws_eqRule.f kj25 t548 t549 t552 t523 t524 t527).bind fun t580=>(if t580 = true then (laws_FnExactMergeRules.j1 kj25 a2 t530 (t555 != t530) a0_0 l0_1 l0_2 a1_0 l1_1 l1_2 t523 t524 t527 t548 t549 t552) else (laws_FnExactMergeRules.j1 kj25 a2 t530 true a0_0 l0_1 l0_2 a1_0 l1_1 l1_2 t523 t524 t527 t548 t549 t552)))))) else (some false)))) = some r:=by rw [if_pos rfl] at H;exact H
       clear H
       have H:=H1
       clear H1
       replace H:=Option.bind_eq_some_iff.mp H
       obtain ⟨⟨t566,t567,t570⟩,A1110,H⟩:=H
       replace H : ((laws_eqRule.f kj25 t540 t541 t544 t566 t567 t570).bind fun t573=>(if t573 = true then ((laws_markRule.f kj25 t532 t533 t536 1).bind fun bt574=>((laws_markRule.f kj25 t540 t541 t544 bt574.1).bind fun bt577=>(if bt577.1 < 0 then (laws_FnExactMergeRules.j1 kj25 a2 t530 true a0_0 l0_1 l0_2 a1_0 l1_1 l1_2 t523 t524 t527 t548 t549 t552) else ((laws_eqRule.f kj25 t548 t549 t552 t523 t524 t527).bind fun t580=>(if t580 = true then (laws_FnExactMergeRules.j1 kj25 a2 t530 (t555 != t530) a0_0 l0_1 l0_2 a1_0 l1_1 l1_2 t523 t524 t527 t548 t549 t552) else (laws_FnExactMergeRules.j1 kj25 a2 t530 true a0_0 l0_1 l0_2 a1_0 l1_1 l1_2 t523 t524 t527 t548 t549 t552)))))) else (some false))) = some r:=H
       have A111:=zA A1110
       clear A1110
       replace H:=Option.bind_eq_some_iff.mp H
       obtain ⟨t573,A1120,H⟩:=H
       replace H : (if t573 = true then ((laws_markRule.f kj25 t532 t533 t536 1).bind fun bt574=>((laws_markRule.f kj25 t540 t541 t544 bt574.1).bind fun bt577=>(if bt577.1 < 0 then (laws_FnExactMergeRules.j1 kj25 a2 t530 true a0_0 l0_1 l0_2 a1_0 l1_1 l1_2 t523 t524 t527 t548 t549 t552) else ((laws_eqRule.f kj25 t548 t549 t552 t523 t524 t527).bind fun t580=>(if t580 = true then (laws_FnExactMergeRules.j1 kj25 a2 t530 (t555 != t530) a0_0 l0_1 l0_2 a1_0 l1_1 l1_2 t523 t524 t527 t548 t549 t552) else (laws_FnExactMergeRules.j1 kj25 a2 t530 true a0_0 l0_1 l0_2 a1_0 l1_1 l1_2 t523 t524 t527 t548 t549 t552)))))) else (some false)) = some r:=H
       have A112:=zA A1120
       clear A1120
       by_cases c113 : t573 = true
       ·subst c113
        have H1 : ((laws_markRule.f kj25 t532 t533 t536 1).bind fun bt574=>((laws_markRule.f kj25 t540 t541 t544 bt574.1).bind fun bt577=>(if bt577.1 < 0 then (laws_FnExactMergeRules.j1 kj25 a2 t530 true a0_0 l0_1 l0_2 a1_0 l1_1 l1_2 t523 t524 t527 t548 t549 t552) else ((laws_eqRule.f kj25 t548 t549 t552 t523 t524 t527).bind fun t580=>(if t580 = true then (laws_FnExactMergeRules.j1 kj25 a2 t530 (t555 != t530) a0_0 l0_1 l0_2 a1_0 l1_1 l1_2 t523 t524 t527 t548 t549 t552) else (laws_FnExactMergeRules.j1 kj25 a2 t530 true a0_0 l0_1 l0_2 a1_0 l1_1 l1_2 t523 t524 t527 t548 t549 t552)))))) = some r:=by rw [if_pos rfl] at H;exact H
        clear H
        have H:=H1
        clear H1
        replace H:=Option.bind_eq_some_iff.mp H
        obtain ⟨⟨t574,t575,t576⟩,A1140,H⟩:=H
        replace H : ((laws_markRule.f kj25 t540 t541 t544 t574).bind fun bt577=>(if bt577.1 < 0 then (laws_FnExactMergeRules.j1 kj25 a2 t530 true a0_0 l0_1 l0_2 a1_0 l1_1 l1_2 t523 t524 t527 t548 t549 t552) else ((laws_eqRule.f kj25 t548 t549 t552 t523 t524 t527).bind fun t580=>(if t580 = true then (laws_FnExactMergeRules.j1 kj25 a2 t530 (t555 != t530) a0_0 l0_1 l0_2 a1_0 l1_1 l1_2 t523 t524 t527 t548 t549 t552) else (laws_FnExactMergeRules.j1 kj25 a2 t530 true a0_0 l0_1 l0_2 a1_0 l1_1 l1_2 t523 t524 t527 t548 t549 t552))))) = some r:=H
        have A114:=zA A1140
        clear A1140
        replace H:=Option.bind_eq_some_iff.mp H
        obtain ⟨⟨t577,t578,t579⟩,A1150,H⟩:=H
        replace H : (if t577 < 0 then (laws_FnExactMergeRules.j1 kj25 a2 t530 true a0_0 l0_1 l0_2 a1_0 l1_1 l1_2 t523 t524 t527 t548 t549 t552) else ((laws_eqRule.f kj25 t548 t549 t552 t523 t524 t527).bind fun t580=>(if t580 = true then (laws_FnExactMergeRules.j1 kj25 a2 t530 (t555 != t530) a0_0 l0_1 l0_2 a1_0 l1_1 l1_2 t523 t524 t527 t548 t549 t552) else (laws_FnExactMergeRules.j1 kj25 a2 t530 true a0_0 l0_1 l0_2 a1_0 l1_1 l1_2 t523 t524 t527 t548 t549 t552)))) = some r:=H
        have A115:=zA A1150
        clear A1150
        have HC116:=zA H
        clear H
        try go_wp2
        replace HO_532001:=zA (Kd.R_drew HO_532001.out)
        replace HO_532002:=zA (Kd.R_drew HO_532002.out)
        replace HO_540001:=zA (Kd.R_drew HO_540001.out)
        replace HO_540002:=zA (Kd.R_drew HO_540002.out)
        replace HO_548001:=zA (Kd.R_drew HO_548001.out)
        replace HO_548002:=zA (Kd.R_drew HO_548002.out)
        replace HO_557001:=zA (Kd.R_drew HO_557001.out)
        replace HO_557002:=zA (Kd.R_drew HO_557002.out)
        replace BK505:=zA (blk_drew BK505.out)
        replace BK506:=zA (blk_drew BK506.out)
        replace BK531:=zA (blk_drew BK531.out)
        replace BK539:=zA (blk_drew BK539.out)
        replace BK547:=zA (blk_drew BK547.out)
        replace BK556:=zA (blk_drew BK556.out)
        replace HB:=zA (below_drew1 HB.out)
        refine start_ (n:=5) (S:=fun w'=>w'.cell? ⟨gb539,0,none⟩ = some (.int .i64 t532)∧w'.cell? ⟨gb539,1,none⟩ = some (.slice Ao57 t533.length co57)∧w'.cell? ⟨gb539,2,none⟩ = some (.slice Ao58 t536.length co58)∧w'.cell? ⟨gb505,0,none⟩ = some (.int .i64 a0_0)∧w'.cell? ⟨gb505,1,none⟩ = some (.slice A0_1 l0_1.length c0_1)∧w'.cell? ⟨gb505,2,none⟩ = some (.slice A0_2 l0_2.length c0_2)) (ds:=[]) #[false,false,false,false,false] (by kernel_rfl) rfl rfl ⟨bcu BK539 0,bcu BK539 1,bcu BK539 2,bcu BK505 0,bcu BK505 1,bcu BK505 2⟩ (fun hHeld=>?_)
        generalize wc.drew = w117 at HO_532001 HO_532002 HO_540001 HO_540002 HO_548001 HO_548002 HO_557001 HO_557002 BK505 BK506 BK531 BK539 BK547 BK556 HB hHeld ⊢
        refine take_ (i:=0) (N:=some 58) (v:=?_) (a':=?_) (bl 5 1) rfl rfl (by kernel_rfl) (fun _ _ _ h=>h) (Or.inl ⟨by rfl,?_⟩) hHeld ?_ ?_
        rotate_left
        ·rintro w' ⟨s0,s1,s2,s3,s4,s5⟩
         go_simp
         with_reducible rfl
        rotate_left
        ·simp only [Act.put,ls,lz,ln,i64_w,i32_w]
         rfl
        refine take_ (i:=1) (N:=some 59) (v:=?_) (a':=?_) (bl 5 3) rfl rfl (by kernel_rfl) (fun _ _ _ h=>h) (Or.inl ⟨by rfl,?_⟩) hHeld ?_ ?_
        rotate_left
        ·rintro w' ⟨s0,s1,s2,s3,s4,s5⟩
         go_simp
         with_reducible rfl
        rotate_left
        ·simp only [Act.put,ls,lz,ln,i64_w,i32_w]
         rfl
        refine one_ (i:=2) (N:=some 60) (bl 5 7) rfl rfl (by kernel_rfl) (by decide) (fun K hK=>?_)
        refine gS Try.func27 #[.agg #[.int .i64 a0_0,.slice A0_1 l0_1.length c0_1,.slice A0_2 l0_2.length c0_2]] ?_
        with_reducible refine (laws_toRule.calls kj25 a0_0 _ _ l0_1 _ _ l0_2 t558 t559 t562 _ ?side1 ?side2 ?side3 ?side4 A108.out).mono ?_
        (case side1=>exact uC ((Kd.C_below HR0_1.out HB.out)))
        (case side2=>exact HC0_1.out)
        (case side3=>exact uC ((Kd.C_below HR0_2.out HB.out)))
        (case side4=>exact HC0_2.out)
        rintro e w118 ⟨v560,v563,rfl,ho0,ho1,hb⟩
        refine ⟨_,rfl,?_⟩
        have HO561:=zA (Kd.R_lower (nw (nw (nw (nw (nw (nw (nw (nw ho0 (uR HO_532001.out)) (uR HO_532002.out)) (uR HO_540001.out)) (uR HO_540002.out)) (uR HO_548001.out)) (uR HO_548002.out)) (uR HO_557001.out)) (uR HO_557002.out)) (below_size (uH HB.out)))
        have HO564:=zA (Kd.R_lower (nw (nw (nw (nw (nw (nw (nw (nw ho1 (uR HO_532001.out)) (uR HO_532002.out)) (uR HO_540001.out)) (uR HO_540002.out)) (uR HO_548001.out)) (uR HO_548002.out)) (uR HO_557001.out)) (uR HO_557002.out)) (below_size (uH HB.out)))
        replace HO_532001:=td2 (uR HO_532001.out) hb ho0 ho1
        replace HO_532002:=td2 (uR HO_532002.out) hb ho0 ho1
        replace HO_540001:=td2 (uR HO_540001.out) hb ho0 ho1
        replace HO_540002:=td2 (uR HO_540002.out) hb ho0 ho1
        replace HO_548001:=td2 (uR HO_548001.out) hb ho0 ho1
        replace HO_548002:=td2 (uR HO_548002.out) hb ho0 ho1
        replace HO_557001:=td2 (uR HO_557001.out) hb ho0 ho1
        replace HO_557002:=td2 (uR HO_557002.out) hb ho0 ho1
        replace BK505:=xB BK505 hb
        replace BK506:=xB BK506 hb
        replace BK531:=xB BK531 hb
        replace BK539:=xB BK539 hb
        replace BK547:=xB BK547 hb
        replace BK556:=xB BK556 hb
        replace HB:=xH HB hb
        (try clear hb);(try clear ho0);(try clear ho1)
        obtain ⟨Ao119,co119,eo119⟩:=Kd.R_slice HO561.out
        (first | subst eo119 | (injection eo119 with f1_ f2_ f3_;have f4_:=f1_.symm;have f5_:=f3_.symm;clear f1_ f2_ f3_;subst f4_;subst f5_))
        obtain ⟨Ao120,co120,eo120⟩:=Kd.R_slice HO564.out
        (first | subst eo120 | (injection eo120 with f1_ f2_ f3_;have f4_:=f1_.symm;have f5_:=f3_.symm;clear f1_ f2_ f3_;subst f4_;subst f5_))
        refine hK.out _ _ ⟨bcu BK539 0,bcu BK539 1,bcu BK539 2,bcu BK505 0,bcu BK505 1,bcu BK505 2⟩ (fun hHeld=>?_)
        clear hK K
        refine no_ 60 ?_
        refine one_ (i:=3) (N:=some 61) (bl 5 15) rfl rfl (by kernel_rfl) (by decide) (fun K hK=>?_)
        refine gS Try.func29 #[.agg #[.int .i64 t532,.slice Ao57 t533.length co57,.slice Ao58 t536.length co58],.agg #[.int .i64 t558,.slice Ao119 t559.length co119,.slice Ao120 t562.length co120]] ?_
        with_reducible refine (laws_eqRule.calls kj25 t532 _ _ t533 _ _ t536 t558 _ _ t559 _ _ t562 true _ ?side1 ?side2 ?side3 ?side4 ?side5 ?side6 ?side7 ?side8 A109.out).mono ?_
        (case side1=>exact uC ((Kd.R_reads' HO_540001.out).2.2))
        (case side2=>exact (Kd.R_reads' HO_540001.out).2.1)
        (case side3=>exact uC ((Kd.R_reads' HO_540002.out).2.2))
        (case side4=>exact (Kd.R_reads' HO_540002.out).2.1)
        (case side5=>exact uC ((Kd.R_reads' HO561.out).2.2))
        (case side6=>exact (Kd.R_reads' HO561.out).2.1)
        (case side7=>exact uC ((Kd.R_reads' HO564.out).2.2))
        (case side8=>exact (Kd.R_reads' HO564.out).2.1)
        rintro e w121 ⟨rfl,hb⟩
        refine ⟨_,rfl,?_⟩
        replace HO_532001:=xR HO_532001 hb
        replace HO_532002:=xR HO_532002 hb
        replace HO_540001:=xR HO_540001 hb
        replace HO_540002:=xR HO_540002 hb
        replace HO_548001:=xR HO_548001 hb
        replace HO_548002:=xR HO_548002 hb
        replace HO_557001:=xR HO_557001 hb
        replace HO_557002:=xR HO_557002 hb
        replace HO561:=xR HO561 hb
        replace HO564:=xR HO564 hb
        replace BK505:=xB BK505 hb
        replace BK506:=xB BK506 hb
        replace BK531:=xB BK531 hb
        replace BK539:=xB BK539 hb
        replace BK547:=xB BK547 hb
        replace BK556:=xB BK556 hb
        replace HB:=xH HB hb
        (try clear hb)
        refine hK.out _ _ ⟨bcu BK539 0,bcu BK539 1,bcu BK539 2,bcu BK505 0,bcu BK505 1,bcu BK505 2⟩ (fun hHeld=>?_)
        clear hK K
        refine no_ 61 ?_
        refine pure_ (i:=4) (N:=some 62) (v:=?_) (a':=?_) (bl 5 31) rfl rfl (by kernel_rfl) (fun _ _ _ h=>h) (Or.inl ⟨by rfl,?_⟩) ?_ ?_
        rotate_left
        ·intro w'
         go_simp
         with_reducible rfl
        rotate_left
        ·simp only [Act.put,ls,lz,ln,i64_w,i32_w]
         rfl
        refine done_ (by kernel_rfl) ?_
        try go_wp2
        replace HO_532001:=zA (Kd.R_drew HO_532001.out)
        replace HO_532002:=zA (Kd.R_drew HO_532002.out)
        replace HO_540001:=zA (Kd.R_drew HO_540001.out)
        replace HO_540002:=zA (Kd.R_drew HO_540002.out)
        replace HO_548001:=zA (Kd.R_drew HO_548001.out)
        replace HO_548002:=zA (Kd.R_drew HO_548002.out)
        replace HO_557001:=zA (Kd.R_drew HO_557001.out)
        replace HO_557002:=zA (Kd.R_drew HO_557002.out)
        replace HO561:=zA (Kd.R_drew HO561.out)
        replace HO564:=zA (Kd.R_drew HO564.out)
        replace BK505:=zA (blk_drew BK505.out)
        replace BK506:=zA (blk_drew BK506.out)
        replace BK531:=zA (blk_drew BK531.out)
        replace BK539:=zA (blk_drew BK539.out)
        replace BK547:=zA (blk_drew BK547.out)
        replace BK556:=zA (blk_drew BK556.out)
        replace HB:=zA (below_drew1 HB.out)
        refine start_ (n:=5) (S:=fun w'=>w'.cell? ⟨gb547,0,none⟩ = some (.int .i64 t540)∧w'.cell? ⟨gb547,1,none⟩ = some (.slice Ao68 t541.length co68)∧w'.cell? ⟨gb547,2,none⟩ = some (.slice Ao69 t544.length co69)∧w'.cell? ⟨gb506,0,none⟩ = some (.int .i64 a1_0)∧w'.cell? ⟨gb506,1,none⟩ = some (.slice A1_1 l1_1.length c1_1)∧w'.cell? ⟨gb506,2,none⟩ = some (.slice A1_2 l1_2.length c1_2)) (ds:=[]) #[false,false,false,false,false] (by kernel_rfl) rfl rfl ⟨bcu BK547 0,bcu BK547 1,bcu BK547 2,bcu BK506 0,bcu BK506 1,bcu BK506 2⟩ (fun hHeld=>?_)
        generalize w121.drew = w122 at HO_532001 HO_532002 HO_540001 HO_540002 HO_548001 HO_548002 HO_557001 HO_557002 HO561 HO564 BK505 BK506 BK531 BK539 BK547 BK556 HB hHeld ⊢
        refine take_ (i:=0) (N:=some 63) (v:=?_) (a':=?_) (bl 5 1) rfl rfl (by kernel_rfl) (fun _ _ _ h=>h) (Or.inl ⟨by rfl,?_⟩) hHeld ?_ ?_
        rotate_left
        ·rintro w' ⟨s0,s1,s2,s3,s4,s5⟩
         go_simp
         with_reducible rfl
        rotate_left
        ·simp only [Act.put,ls,lz,ln,i64_w,i32_w]
         rfl
        refine take_ (i:=1) (N:=some 64) (v:=?_) (a':=?_) (bl 5 3) rfl rfl (by kernel_rfl) (fun _ _ _ h=>h) (Or.inl ⟨by rfl,?_⟩) hHeld ?_ ?_
        rotate_left
        ·rintro w' ⟨s0,s1,s2,s3,s4,s5⟩
         go_simp
         with_reducible rfl
        rotate_left
        ·simp only [Act.put,ls,lz,ln,i64_w,i32_w]
         rfl
        refine one_ (i:=2) (N:=some 65) (bl 5 7) rfl rfl (by kernel_rfl) (by decide) (fun K hK=>?_)
        refine gS Try.func27 #[.agg #[.int .i64 a1_0,.slice A1_1 l1_1.length c1_1,.slice A1_2 l1_2.length c1_2]] ?_
        with_reducible refine (laws_toRule.calls kj25 a1_0 _ _ l1_1 _ _ l1_2 t566 t567 t570 _ ?side1 ?side2 ?side3 ?side4 A111.out).mono ?_
        (case side1=>exact uC ((Kd.C_below HR1_1.out HB.out)))
        (case side2=>exact HC1_1.out)
        (case side3=>exact uC ((Kd.C_below HR1_2.out HB.out)))
        (case side4=>exact HC1_2.out)
        rintro e w123 ⟨v568,v571,rfl,ho0,ho1,hb⟩
        refine ⟨_,rfl,?_⟩
        have HO569:=zA (Kd.R_lower (nw (nw (nw (nw (nw (nw (nw (nw (nw (nw ho0 (uR HO_532001.out)) (uR HO_532002.out)) (uR HO_540001.out)) (uR HO_540002.out)) (uR HO_548001.out)) (uR HO_548002.out)) (uR HO_557001.out)) (uR HO_557002.out)) (uR HO561.out)) (uR HO564.out)) (below_size (uH HB.out)))
        have HO572:=zA (Kd.R_lower (nw (nw (nw (nw (nw (nw (nw (nw (nw (nw ho1 (uR HO_532001.out)) (uR HO_532002.out)) (uR HO_540001.out)) (uR HO_540002.out)) (uR HO_548001.out)) (uR HO_548002.out)) (uR HO_557001.out)) (uR HO_557002.out)) (uR HO561.out)) (uR HO564.out)) (below_size (uH HB.out)))
        replace HO_532001:=td2 (uR HO_532001.out) hb ho0 ho1
        replace HO_532002:=td2 (uR HO_532002.out) hb ho0 ho1
        replace HO_540001:=td2 (uR HO_540001.out) hb ho0 ho1
        replace HO_540002:=td2 (uR HO_540002.out) hb ho0 ho1
        replace HO_548001:=td2 (uR HO_548001.out) hb ho0 ho1
        replace HO_548002:=td2 (uR HO_548002.out) hb ho0 ho1
        replace HO_557001:=td2 (uR HO_557001.out) hb ho0 ho1
        replace HO_557002:=td2 (uR HO_557002.out) hb ho0 ho1
        replace HO561:=td2 (uR HO561.out) hb ho0 ho1
        replace HO564:=td2 (uR HO564.out) hb ho0 ho1
        replace BK505:=xB BK505 hb
        replace BK506:=xB BK506 hb
        replace BK531:=xB BK531 hb
        replace BK539:=xB BK539 hb
        replace BK547:=xB BK547 hb
        replace BK556:=xB BK556 hb
        replace HB:=xH HB hb
        (try clear hb);(try clear ho0);(try clear ho1)
        obtain ⟨Ao124,co124,eo124⟩:=Kd.R_slice HO569.out
        (first | subst eo124 | (injection eo124 with f1_ f2_ f3_;have f4_:=f1_.symm;have f5_:=f3_.symm;clear f1_ f2_ f3_;subst f4_;subst f5_))
        obtain ⟨Ao125,co125,eo125⟩:=Kd.R_slice HO572.out
        (first | subst eo125 | (injection eo125 with f1_ f2_ f3_;have f4_:=f1_.symm;have f5_:=f3_.symm;clear f1_ f2_ f3_;subst f4_;subst f5_))
        refine hK.out _ _ ⟨bcu BK547 0,bcu BK547 1,bcu BK547 2,bcu BK506 0,bcu BK506 1,bcu BK506 2⟩ (fun hHeld=>?_)
        clear hK K
        refine no_ 65 ?_
        refine one_ (i:=3) (N:=some 66) (bl 5 15) rfl rfl (by kernel_rfl) (by decide) (fun K hK=>?_)
        refine gS Try.func29 #[.agg #[.int .i64 t540,.slice Ao68 t541.length co68,.slice Ao69 t544.length co69],.agg #[.int .i64 t566,.slice Ao124 t567.length co124,.slice Ao125 t570.length co125]] ?_
        with_reducible refine (laws_eqRule.calls kj25 t540 _ _ t541 _ _ t544 t566 _ _ t567 _ _ t570 true _ ?side1 ?side2 ?side3 ?side4 ?side5 ?side6 ?side7 ?side8 A112.out).mono ?_
        (case side1=>exact uC ((Kd.R_reads' HO_548001.out).2.2))
        (case side2=>exact (Kd.R_reads' HO_548001.out).2.1)
        (case side3=>exact uC ((Kd.R_reads' HO_548002.out).2.2))
        (case side4=>exact (Kd.R_reads' HO_548002.out).2.1)
        (case side5=>exact uC ((Kd.R_reads' HO569.out).2.2))
        (case side6=>exact (Kd.R_reads' HO569.out).2.1)
        (case side7=>exact uC ((Kd.R_reads' HO572.out).2.2))
        (case side8=>exact (Kd.R_reads' HO572.out).2.1)
        rintro e w126 ⟨rfl,hb⟩
        refine ⟨_,rfl,?_⟩
        replace HO_532001:=xR HO_532001 hb
        replace HO_532002:=xR HO_532002 hb
        replace HO_540001:=xR HO_540001 hb
        replace HO_540002:=xR HO_540002 hb
        replace HO_548001:=xR HO_548001 hb
        replace HO_548002:=xR HO_548002 hb
        replace HO_557001:=xR HO_557001 hb
        replace HO_557002:=xR HO_557002 hb
        replace HO561:=xR HO561 hb
        replace HO564:=xR HO564 hb
        replace HO569:=xR HO569 hb
        replace HO572:=xR HO572 hb
        replace BK505:=xB BK505 hb
        replace BK506:=xB BK506 hb
        replace BK531:=xB BK531 hb
        replace BK539:=xB BK539 hb
        replace BK547:=xB BK547 hb
        replace BK556:=xB BK556 hb
        replace HB:=xH HB hb
        (try clear hb)
        refine hK.out _ _ ⟨bcu BK547 0,bcu BK547 1,bcu BK547 2,bcu BK506 0,bcu BK506 1,bcu BK506 2⟩ (fun hHeld=>?_)
        clear hK K
        refine no_ 66 ?_
        refine pure_ (i:=4) (N:=some 67) (v:=?_) (a':=?_) (bl 5 31) rfl rfl (by kernel_rfl) (fun _ _ _ h=>h) (Or.inl ⟨by rfl,?_⟩) ?_ ?_
        rotate_left
        ·intro w'
         go_simp
         with_reducible rfl
        rotate_left
        ·simp only [Act.put,ls,lz,ln,i64_w,i32_w]
         rfl
        refine done_ (by kernel_rfl) ?_
        have hnb127:=NB539_505.out;have hnc127:=NB505_539.out;have hnb128:=NB539_506.out;have hnc128:=NB506_539.out;have hnb129:=NB539_531.out;have hnc129:=NB531_539.out;have hnb130:=NB539_547.out;have hnc130:=NB547_539.out;have hnb131:=NB539_556.out;have hnc131:=NB556_539.out
        have hcz132_0:=bc BK539 0
        have hcz132_1:=bc BK539 1
        have hcz132_2:=bc BK539 2
        have hfz132_0:=bf BK539 0
        have hfz132_1:=bf BK539 1
        have hfz132_2:=bf BK539 2
        go_upto_region 21 with (first | ((with_reducible refine gate_callee (f:=30) rfl ?_);refine gL (some 70) Try.func30 #[.agg #[.int .i64 t532,.slice Ao57 t533.length co57,.slice Ao58 t536.length co58],.int .i64 1] ?_;(with_reducible refine (laws_markRule.calls kj25 t532 (fun k_=>some k_ = (.slice Ao57 t533.length co57 : Value).ownBlock) (.slice Ao57 t533.length co57) t533 (fun k_=>some k_ = (.slice Ao58 t536.length co58 : Value).ownBlock) (.slice Ao58 t536.length co58) t536 1 t574 t575 t576 w _ ?side1 ?side2 ?side3 ?side4 ?side5 A114.out).mono ?_);(case side1=>repeat (first | (with_reducible first | exact HB.out | apply below_alloc | apply pw_below_drewN | apply below_drew1 | refine below_set ?_ GE505.out | refine below_set ?_ GE506.out | refine below_set ?_ GE531.out | refine below_set ?_ GE539.out | refine below_set ?_ GE547.out | refine below_set ?_ GE556.out) | exact HB.out));(case side2=>exact Kd.R_tight rfl HO_540001.out);(case side3=>exact fun k_ e_=>(HO_540001.out.1 k_ e_.symm).1.1.1.1.2.2.1);(case side4=>exact Kd.R_tight rfl HO_540002.out);(case side5=>exact fun k_ e_=>(HO_540002.out.1 k_ e_.symm).1.1.1.1.2.2.1);rintro e w133 ⟨rfl,hy0,hy1,hb,hkp⟩;refine ⟨_,rfl,?_⟩;replace HO_532001:=zA (Kd.R_mono (ok':=fun k_=>ax k_ (.slice Ao47 t527.length co47)∧ax k_ (.slice Ao57 t533.length co57)∧ax k_ (.slice Ao58 t536.length co58)∧ax k_ (.slice Ao68 t541.length co68)∧ax k_ (.slice Ao69 t544.length co69)∧ax k_ (.slice Ao79 t549.length co79)∧ax k_ (.slice Ao80 t552.length co80)∧ax k_ (.slice Ao119 t559.length co119)∧ax k_ (.slice Ao120 t562.length co120)∧ax k_ (.slice Ao124 t567.length co124)∧ax k_ (.slice Ao125 t570.length co125)) (Kd.R_keptB (HO_532001.out) hkp (fun k_ hk_ hs_=>Or.elim hs_ (fun e_=>(hk_.1.1.1.1.2.1) e_) (fun e_=>(hk_.1.1.1.1.2.2.1) e_))) (fun k_ ⟨⟨⟨⟨⟨⟨a,b,c,d,f,g,h⟩,i⟩,j⟩,l⟩,m⟩,_⟩=>⟨a,b,c,d,f,g,h,i,j,l,m⟩));replace HO_532002:=zA (Kd.R_mono (ok':=fun k_=>ax k_ (.slice Ao45 t524.length co45)∧ax k_ (.slice Ao57 t533.length co57)∧ax k_ (.slice Ao58 t536.length co58)∧ax k_ (.slice Ao68 t541.length co68)∧ax k_ (.slice Ao69 t544.length co69)∧ax k_ (.slice Ao79 t549.length co79)∧ax k_ (.slice Ao80 t552.length co80)∧ax k_ (.slice Ao119 t559.length co119)∧ax k_ (.slice Ao120 t562.length co120)∧ax k_ (.slice Ao124 t567.length co124)∧ax k_ (.slice Ao125 t570.length co125)) (Kd.R_keptB (HO_532002.out) hkp (fun k_ hk_ hs_=>Or.elim hs_ (fun e_=>(hk_.1.1.1.1.2.1) e_) (fun e_=>(hk_.1.1.1.1.2.2.1) e_))) (fun k_ ⟨⟨⟨⟨⟨⟨a,b,c,d,f,g,h⟩,i⟩,j⟩,l⟩,m⟩,_⟩=>⟨a,b,c,d,f,g,h,i,j,l,m⟩));replace HO_548001:=zA (Kd.R_mono (ok':=fun k_=>ax k_ (.slice Ao45 t524.length co45)∧ax k_ (.slice Ao47 t527.length co47)∧ax k_ (.slice Ao57 t533.length co57)∧ax k_ (.slice Ao58 t536.length co58)∧ax k_ (.slice Ao69 t544.length co69)∧ax k_ (.slice Ao79 t549.length co79)∧ax k_ (.slice Ao80 t552.length co80)∧ax k_ (.slice Ao119 t559.length co119)∧ax k_ (.slice Ao120 t562.length co120)∧ax k_ (.slice Ao124 t567.length co124)∧ax k_ (.slice Ao125 t570.length co125)) (Kd.R_keptB (HO_548001.out) hkp (fun k_ hk_ hs_=>Or.elim hs_ (fun e_=>(hk_.1.1.1.1.2.2.1) e_) (fun e_=>(hk_.1.1.1.1.2.2.2.1) e_))) (fun k_ ⟨⟨⟨⟨⟨⟨a,b,c,d,f,g,h⟩,i⟩,j⟩,l⟩,m⟩,_⟩=>⟨a,b,c,d,f,g,h,i,j,l,m⟩));replace HO_548002:=zA (Kd.R_mono (ok':=fun k_=>ax k_ (.slice Ao45 t524.length co45)∧ax k_ (.slice Ao47 t527.length co47)∧ax k_ (.slice Ao57 t533.length co57)∧ax k_ (.slice Ao58 t536.length co58)∧ax k_ (.slice Ao68 t541.length co68)∧ax k_ (.slice Ao79 t549.length co79)∧ax k_ (.slice Ao80 t552.length co80)∧ax k_ (.slice Ao119 t559.length co119)∧ax k_ (.slice Ao120 t562.length co120)∧ax k_ (.slice Ao124 t567.length co124)∧ax k_ (.slice Ao125 t570.length co125)) (Kd.R_keptB (HO_548002.out) hkp (fun k_ hk_ hs_=>Or.elim hs_ (fun e_=>(hk_.1.1.1.1.2.2.1) e_) (fun e_=>(hk_.1.1.1.1.2.2.2.1) e_))) (fun k_ ⟨⟨⟨⟨⟨⟨a,b,c,d,f,g,h⟩,i⟩,j⟩,l⟩,m⟩,_⟩=>⟨a,b,c,d,f,g,h,i,j,l,m⟩));replace HO_557001:=zA (Kd.R_mono (ok':=fun k_=>ax k_ (.slice Ao45 t524.length co45)∧ax k_ (.slice Ao47 t527.length co47)∧ax k_ (.slice Ao57 t533.length co57)∧ax k_ (.slice Ao58 t536.length co58)∧ax k_ (.slice Ao68 t541.length co68)∧ax k_ (.slice Ao69 t544.length co69)∧ax k_ (.slice Ao80 t552.length co80)∧ax k_ (.slice Ao119 t559.length co119)∧ax k_ (.slice Ao120 t562.length co120)∧ax k_ (.slice Ao124 t567.length co124)∧ax k_ (.slice Ao125 t570.length co125)) (Kd.R_keptB (HO_557001.out) hkp (fun k_ hk_ hs_=>Or.elim hs_ (fun e_=>(hk_.1.1.1.1.2.2.1) e_) (fun e_=>(hk_.1.1.1.1.2.2.2.1) e_))) (fun k_ ⟨⟨⟨⟨⟨⟨a,b,c,d,f,g,h⟩,i⟩,j⟩,l⟩,m⟩,_⟩=>⟨a,b,c,d,f,g,h,i,j,l,m⟩));replace HO_557002:=zA (Kd.R_mono (ok':=fun k_=>ax k_ (.slice Ao45 t524.length co45)∧ax k_ (.slice Ao47 t527.length co47)∧ax k_ (.slice Ao57 t533.length co57)∧ax k_ (.slice Ao58 t536.length co58)∧ax k_ (.slice Ao68 t541.length co68)∧ax k_ (.slice Ao69 t544.length co69)∧ax k_ (.slice Ao79 t549.length co79)∧ax k_ (.slice Ao119 t559.length co119)∧ax k_ (.slice Ao120 t562.length co120)∧ax k_ (.slice Ao124 t567.length co124)∧ax k_ (.slice Ao125 t570.length co125)) (Kd.R_keptB (HO_557002.out) hkp (fun k_ hk_ hs_=>Or.elim hs_ (fun e_=>(hk_.1.1.1.1.2.2.1) e_) (fun e_=>(hk_.1.1.1.1.2.2.2.1) e_))) (fun k_ ⟨⟨⟨⟨⟨⟨a,b,c,d,f,g,h⟩,i⟩,j⟩,l⟩,m⟩,_⟩=>⟨a,b,c,d,f,g,h,i,j,l,m⟩));replace BK505:=zA (blk_kept (uB BK505.out) hkp (fun hs_=>Or.elim hs_ (fun e_=>(fun e_=>(Kd.R_ne HO_540001.out BK505.out (by decide)) e_) e_) (fun e_=>(fun e_=>(Kd.R_ne HO_540002.out BK505.out (by decide)) e_) e_)));replace BK506:=zA (blk_kept (uB BK506.out) hkp (fun hs_=>Or.elim hs_ (fun e_=>(fun e_=>(Kd.R_ne HO_540001.out BK506.out (by decide)) e_) e_) (fun e_=>(fun e_=>(Kd.R_ne HO_540002.out BK506.out (by decide)) e_) e_)));replace BK531:=zA (blk_kept (uB BK531.out) hkp (fun hs_=>Or.elim hs_ (fun e_=>(fun e_=>(Kd.R_ne HO_540001.out BK531.out (by decide)) e_) e_) (fun e_=>(fun e_=>(Kd.R_ne HO_540002.out BK531.out (by decide)) e_) e_)));replace BK539:=zA (blk_kept (uB BK539.out) hkp (fun hs_=>Or.elim hs_ (fun e_=>(fun e_=>(Kd.R_ne HO_540001.out BK539.out (by decide)) e_) e_) (fun e_=>(fun e_=>(Kd.R_ne HO_540002.out BK539.out (by decide)) e_) e_)));replace BK547:=zA (blk_kept (uB BK547.out) hkp (fun hs_=>Or.elim hs_ (fun e_=>(fun e_=>(Kd.R_ne HO_540001.out BK547.out (by decide)) e_) e_) (fun e_=>(fun e_=>(Kd.R_ne HO_540002.out BK547.out (by decide)) e_) e_)));replace BK556:=zA (blk_kept (uB BK556.out) hkp (fun hs_=>Or.elim hs_ (fun e_=>(fun e_=>(Kd.R_ne HO_540001.out BK556.out (by decide)) e_) e_) (fun e_=>(fun e_=>(Kd.R_ne HO_540002.out BK556.out (by decide)) e_) e_)));replace HO_540001:=zA (Kd.R_reok rfl hy0 (fun k_ e_=>HO_540001.out.1 k_ e_));replace HO_540002:=zA (Kd.R_reok rfl hy1 (fun k_ e_=>HO_540002.out.1 k_ e_));replace HO561:=zA (Kd.R_mono (ok':=fun k_=>ax k_ (.slice Ao45 t524.length co45)∧ax k_ (.slice Ao47 t527.length co47)∧ax k_ (.slice Ao57 t533.length co57)∧ax k_ (.slice Ao58 t536.length co58)∧ax k_ (.slice Ao68 t541.length co68)∧ax k_ (.slice Ao69 t544.length co69)∧ax k_ (.slice Ao79 t549.length co79)∧ax k_ (.slice Ao80 t552.length co80)∧ax k_ (.slice Ao120 t562.length co120)∧ax k_ (.slice Ao124 t567.length co124)∧ax k_ (.slice Ao125 t570.length co125)) (Kd.R_keptB (HO561.out) hkp (fun k_ hk_ hs_=>Or.elim hs_ (fun e_=>(hk_.1.1.1.1.1.1.1.2) e_) (fun e_=>(hk_.1.1.1.1.1.1.2) e_))) (fun k_ ⟨⟨⟨⟨⟨⟨⟨⟨⟨⟨⟨j,a⟩,b⟩,c⟩,d⟩,f⟩,g⟩,h⟩,i⟩,l⟩,m⟩,_⟩=>⟨a,b,c,d,f,g,h,i,j,l,m⟩));replace HO564:=zA (Kd.R_mono (ok':=fun k_=>ax k_ (.slice Ao45 t524.length co45)∧ax k_ (.slice Ao47 t527.length co47)∧ax k_ (.slice Ao57 t533.length co57)∧ax k_ (.slice Ao58 t536.length co58)∧ax k_ (.slice Ao68 t541.length co68)∧ax k_ (.slice Ao69 t544.length co69)∧ax k_ (.slice Ao79 t549.length co79)∧ax k_ (.slice Ao80 t552.length co80)∧ax k_ (.slice Ao119 t559.length co119)∧ax k_ (.slice Ao124 t567.length co124)∧ax k_ (.slice Ao125 t570.length co125)) (Kd.R_keptB (HO564.out) hkp (fun k_ hk_ hs_=>Or.elim hs_ (fun e_=>(hk_.1.1.1.1.1.1.1.2) e_) (fun e_=>(hk_.1.1.1.1.1.1.2) e_))) (fun k_ ⟨⟨⟨⟨⟨⟨⟨⟨⟨⟨⟨j,a⟩,b⟩,c⟩,d⟩,f⟩,g⟩,h⟩,i⟩,l⟩,m⟩,_⟩=>⟨a,b,c,d,f,g,h,i,j,l,m⟩));replace HO569:=zA (Kd.R_mono (ok':=fun k_=>ax k_ (.slice Ao45 t524.length co45)∧ax k_ (.slice Ao47 t527.length co47)∧ax k_ (.slice Ao57 t533.length co57)∧ax k_ (.slice Ao58 t536.length co58)∧ax k_ (.slice Ao68 t541.length co68)∧ax k_ (.slice Ao69 t544.length co69)∧ax k_ (.slice Ao79 t549.length co79)∧ax k_ (.slice Ao80 t552.length co80)∧ax k_ (.slice Ao119 t559.length co119)∧ax k_ (.slice Ao120 t562.length co120)∧ax k_ (.slice Ao125 t570.length co125)) (Kd.R_keptB (HO569.out) hkp (fun k_ hk_ hs_=>Or.elim hs_ (fun e_=>(hk_.1.1.1.1.1.1.1.2) e_) (fun e_=>(hk_.1.1.1.1.1.1.2) e_))) (fun k_ ⟨⟨⟨⟨⟨⟨⟨⟨⟨⟨⟨m,a⟩,b⟩,c⟩,d⟩,f⟩,g⟩,h⟩,i⟩,j⟩,l⟩,_⟩=>⟨a,b,c,d,f,g,h,i,j,l,m⟩));replace HO572:=zA (Kd.R_mono (ok':=fun k_=>ax k_ (.slice Ao45 t524.length co45)∧ax k_ (.slice Ao47 t527.length co47)∧ax k_ (.slice Ao57 t533.length co57)∧ax k_ (.slice Ao58 t536.length co58)∧ax k_ (.slice Ao68 t541.length co68)∧ax k_ (.slice Ao69 t544.length co69)∧ax k_ (.slice Ao79 t549.length co79)∧ax k_ (.slice Ao80 t552.length co80)∧ax k_ (.slice Ao119 t559.length co119)∧ax k_ (.slice Ao120 t562.length co120)∧ax k_ (.slice Ao124 t567.length co124)) (Kd.R_keptB (HO572.out) hkp (fun k_ hk_ hs_=>Or.elim hs_ (fun e_=>(hk_.1.1.1.1.1.1.1.2) e_) (fun e_=>(hk_.1.1.1.1.1.1.2) e_))) (fun k_ ⟨⟨⟨⟨⟨⟨⟨⟨⟨⟨⟨m,a⟩,b⟩,c⟩,d⟩,f⟩,g⟩,h⟩,i⟩,j⟩,l⟩,_⟩=>⟨a,b,c,d,f,g,h,i,j,l,m⟩));replace HB:=zA (hb);(try clear hb);(try clear hkp);(try clear hy0);(try clear hy1);have hnb134:=NB547_505.out;have hnc134:=NB505_547.out;have hnb135:=NB547_506.out;have hnc135:=NB506_547.out;have hnb136:=NB547_531.out;have hnc136:=NB531_547.out;have hnb137:=NB547_556.out;have hnc137:=NB556_547.out;have hcz138_0:=bc BK547 0;have hcz138_1:=bc BK547 1;have hcz138_2:=bc BK547 2;have hfz138_0:=bf BK547 0;have hfz138_1:=bf BK547 1;have hfz138_2:=bf BK547 2) | ((with_reducible refine gate_callee (f:=30) rfl ?_);refine gL (some 73) Try.func30 #[.agg #[.int .i64 t540,.slice Ao68 t541.length co68,.slice Ao69 t544.length co69],.int .i64 t574] ?_;(with_reducible refine (laws_markRule.calls kj25 t540 (fun k_=>some k_ = (.slice Ao68 t541.length co68 : Value).ownBlock) (.slice Ao68 t541.length co68) t541 (fun k_=>some k_ = (.slice Ao69 t544.length co69 : Value).ownBlock) (.slice Ao69 t544.length co69) t544 t574 t577 t578 t579 w _ ?side1 ?side2 ?side3 ?side4 ?side5 A115.out).mono ?_);(case side1=>repeat (first | (with_reducible first | exact HB.out | apply below_alloc | apply pw_below_drewN | apply below_drew1 | refine below_set ?_ GE505.out | refine below_set ?_ GE506.out | refine below_set ?_ GE531.out | refine below_set ?_ GE539.out | refine below_set ?_ GE547.out | refine below_set ?_ GE556.out) | exact HB.out));(case side2=>exact Kd.R_tight rfl HO_548001.out);(case side3=>exact fun k_ e_=>(HO_548001.out.1 k_ e_.symm).2.2.2.2.1);(case side4=>exact Kd.R_tight rfl HO_548002.out);(case side5=>exact fun k_ e_=>(HO_548002.out.1 k_ e_.symm).2.2.2.2.1);rintro e w139 ⟨rfl,hy0,hy1,hb,hkp⟩;refine ⟨_,rfl,?_⟩;replace HO_532001:=zA (Kd.R_mono (ok':=fun k_=>ax k_ (.slice Ao47 t527.length co47)∧ax k_ (.slice Ao57 t533.length co57)∧ax k_ (.slice Ao58 t536.length co58)∧ax k_ (.slice Ao68 t541.length co68)∧ax k_ (.slice Ao69 t544.length co69)∧ax k_ (.slice Ao79 t549.length co79)∧ax k_ (.slice Ao80 t552.length co80)∧ax k_ (.slice Ao119 t559.length co119)∧ax k_ (.slice Ao120 t562.length co120)∧ax k_ (.slice Ao124 t567.length co124)∧ax k_ (.slice Ao125 t570.length co125)) (Kd.R_keptB (HO_532001.out) hkp (fun k_ hk_ hs_=>Or.elim hs_ (fun e_=>(hk_.2.2.2.1) e_) (fun e_=>(hk_.2.2.2.2.1) e_))) (fun k_ ⟨⟨a,b,c,d,f,g,h,i,j,l,m⟩,_⟩=>⟨a,b,c,d,f,g,h,i,j,l,m⟩));replace HO_532002:=zA (Kd.R_mono (ok':=fun k_=>ax k_ (.slice Ao45 t524.length co45)∧ax k_ (.slice Ao57 t533.length co57)∧ax k_ (.slice Ao58 t536.length co58)∧ax k_ (.slice Ao68 t541.length co68)∧ax k_ (.slice Ao69 t544.length co69)∧ax k_ (.slice Ao79 t549.length co79)∧ax k_ (.slice Ao80 t552.length co80)∧ax k_ (.slice Ao119 t559.length co119)∧ax k_ (.slice Ao120 t562.length co120)∧ax k_ (.slice Ao124 t567.length co124)∧ax k_ (.slice Ao125 t570.length co125)) (Kd.R_keptB (HO_532002.out) hkp (fun k_ hk_ hs_=>Or.elim hs_ (fun e_=>(hk_.2.2.2.1) e_) (fun e_=>(hk_.2.2.2.2.1) e_))) (fun k_ ⟨⟨a,b,c,d,f,g,h,i,j,l,m⟩,_⟩=>⟨a,b,c,d,f,g,h,i,j,l,m⟩));replace HO_540001:=zA (Kd.R_mono (ok':=fun k_=>ax k_ (.slice Ao45 t524.length co45)∧ax k_ (.slice Ao47 t527.length co47)∧ax k_ (.slice Ao58 t536.length co58)∧ax k_ (.slice Ao68 t541.length co68)∧ax k_ (.slice Ao69 t544.length co69)∧ax k_ (.slice Ao79 t549.length co79)∧ax k_ (.slice Ao80 t552.length co80)∧ax k_ (.slice Ao119 t559.length co119)∧ax k_ (.slice Ao120 t562.length co120)∧ax k_ (.slice Ao124 t567.length co124)∧ax k_ (.slice Ao125 t570.length co125)) (Kd.R_keptB (HO_540001.out) hkp (fun k_ hk_ hs_=>Or.elim hs_ (fun e_=>(hk_.1.1.1.1.2.2.2.1) e_) (fun e_=>(hk_.1.1.1.1.2.2.2.2.1) e_))) (fun k_ ⟨⟨⟨⟨⟨⟨a,b,c,d,f,g,h⟩,i⟩,j⟩,l⟩,m⟩,_⟩=>⟨a,b,c,d,f,g,h,i,j,l,m⟩));replace HO_540002:=zA (Kd.R_mono (ok':=fun k_=>ax k_ (.slice Ao45 t524.length co45)∧ax k_ (.slice Ao47 t527.length co47)∧ax k_ (.slice Ao57 t533.length co57)∧ax k_ (.slice Ao68 t541.length co68)∧ax k_ (.slice Ao69 t544.length co69)∧ax k_ (.slice Ao79 t549.length co79)∧ax k_ (.slice Ao80 t552.length co80)∧ax k_ (.slice Ao119 t559.length co119)∧ax k_ (.slice Ao120 t562.length co120)∧ax k_ (.slice Ao124 t567.length co124)∧ax k_ (.slice Ao125 t570.length co125)) (Kd.R_keptB (HO_540002.out) hkp (fun k_ hk_ hs_=>Or.elim hs_ (fun e_=>(hk_.1.1.1.1.2.2.2.1) e_) (fun e_=>(hk_.1.1.1.1.2.2.2.2.1) e_))) (fun k_ ⟨⟨⟨⟨⟨⟨a,b,c,d,f,g,h⟩,i⟩,j⟩,l⟩,m⟩,_⟩=>⟨a,b,c,d,f,g,h,i,j,l,m⟩));replace HO_557001:=zA (Kd.R_mono (ok':=fun k_=>ax k_ (.slice Ao45 t524.length co45)∧ax k_ (.slice Ao47 t527.length co47)∧ax k_ (.slice Ao57 t533.length co57)∧ax k_ (.slice Ao58 t536.length co58)∧ax k_ (.slice Ao68 t541.length co68)∧ax k_ (.slice Ao69 t544.length co69)∧ax k_ (.slice Ao80 t552.length co80)∧ax k_ (.slice Ao119 t559.length co119)∧ax k_ (.slice Ao120 t562.length co120)∧ax k_ (.slice Ao124 t567.length co124)∧ax k_ (.slice Ao125 t570.length co125)) (Kd.R_keptB (HO_557001.out) hkp (fun k_ hk_ hs_=>Or.elim hs_ (fun e_=>(hk_.2.2.2.2.1) e_) (fun e_=>(hk_.2.2.2.2.2.1) e_))) (fun k_ ⟨⟨a,b,c,d,f,g,h,i,j,l,m⟩,_⟩=>⟨a,b,c,d,f,g,h,i,j,l,m⟩));replace HO_557002:=zA (Kd.R_mono (ok':=fun k_=>ax k_ (.slice Ao45 t524.length co45)∧ax k_ (.slice Ao47 t527.length co47)∧ax k_ (.slice Ao57 t533.length co57)∧ax k_ (.slice Ao58 t536.length co58)∧ax k_ (.slice Ao68 t541.length co68)∧ax k_ (.slice Ao69 t544.length co69)∧ax k_ (.slice Ao79 t549.length co79)∧ax k_ (.slice Ao119 t559.length co119)∧ax k_ (.slice Ao120 t562.length co120)∧ax k_ (.slice Ao124 t567.length co124)∧ax k_ (.slice Ao125 t570.length co125)) (Kd.R_keptB (HO_557002.out) hkp (fun k_ hk_ hs_=>Or.elim hs_ (fun e_=>(hk_.2.2.2.2.1) e_) (fun e_=>(hk_.2.2.2.2.2.1) e_))) (fun k_ ⟨⟨a,b,c,d,f,g,h,i,j,l,m⟩,_⟩=>⟨a,b,c,d,f,g,h,i,j,l,m⟩));replace BK505:=zA (blk_kept (uB BK505.out) hkp (fun hs_=>Or.elim hs_ (fun e_=>(fun e_=>(Kd.R_ne HO_548001.out BK505.out (by decide)) e_) e_) (fun e_=>(fun e_=>(Kd.R_ne HO_548002.out BK505.out (by decide)) e_) e_)));replace BK506:=zA (blk_kept (uB BK506.out) hkp (fun hs_=>Or.elim hs_ (fun e_=>(fun e_=>(Kd.R_ne HO_548001.out BK506.out (by decide)) e_) e_) (fun e_=>(fun e_=>(Kd.R_ne HO_548002.out BK506.out (by decide)) e_) e_)));replace BK531:=zA (blk_kept (uB BK531.out) hkp (fun hs_=>Or.elim hs_ (fun e_=>(fun e_=>(Kd.R_ne HO_548001.out BK531.out (by decide)) e_) e_) (fun e_=>(fun e_=>(Kd.R_ne HO_548002.out BK531.out (by decide)) e_) e_)));replace BK539:=zA (blk_kept (uB BK539.out) hkp (fun hs_=>Or.elim hs_ (fun e_=>(fun e_=>(Kd.R_ne HO_548001.out BK539.out (by decide)) e_) e_) (fun e_=>(fun e_=>(Kd.R_ne HO_548002.out BK539.out (by decide)) e_) e_)));replace BK547:=zA (blk_kept (uB BK547.out) hkp (fun hs_=>Or.elim hs_ (fun e_=>(fun e_=>(Kd.R_ne HO_548001.out BK547.out (by decide)) e_) e_) (fun e_=>(fun e_=>(Kd.R_ne HO_548002.out BK547.out (by decide)) e_) e_)));replace BK556:=zA (blk_kept (uB BK556.out) hkp (fun hs_=>Or.elim hs_ (fun e_=>(fun e_=>(Kd.R_ne HO_548001.out BK556.out (by decide)) e_) e_) (fun e_=>(fun e_=>(Kd.R_ne HO_548002.out BK556.out (by decide)) e_) e_)));replace HO_548001:=zA (Kd.R_reok rfl hy0 (fun k_ e_=>HO_548001.out.1 k_ e_));replace HO_548002:=zA (Kd.R_reok rfl hy1 (fun k_ e_=>HO_548002.out.1 k_ e_));replace HO561:=zA (Kd.R_mono (ok':=fun k_=>ax k_ (.slice Ao45 t524.length co45)∧ax k_ (.slice Ao47 t527.length co47)∧ax k_ (.slice Ao57 t533.length co57)∧ax k_ (.slice Ao58 t536.length co58)∧ax k_ (.slice Ao68 t541.length co68)∧ax k_ (.slice Ao69 t544.length co69)∧ax k_ (.slice Ao79 t549.length co79)∧ax k_ (.slice Ao80 t552.length co80)∧ax k_ (.slice Ao120 t562.length co120)∧ax k_ (.slice Ao124 t567.length co124)∧ax k_ (.slice Ao125 t570.length co125)) (Kd.R_keptB (HO561.out) hkp (fun k_ hk_ hs_=>Or.elim hs_ (fun e_=>(hk_.2.2.2.2.1) e_) (fun e_=>(hk_.2.2.2.2.2.1) e_))) (fun k_ ⟨⟨a,b,c,d,f,g,h,i,j,l,m⟩,_⟩=>⟨a,b,c,d,f,g,h,i,j,l,m⟩));replace HO564:=zA (Kd.R_mono (ok':=fun k_=>ax k_ (.slice Ao45 t524.length co45)∧ax k_ (.slice Ao47 t527.length co47)∧ax k_ (.slice Ao57 t533.length co57)∧ax k_ (.slice Ao58 t536.length co58)∧ax k_ (.slice Ao68 t541.length co68)∧ax k_ (.slice Ao69 t544.length co69)∧ax k_ (.slice Ao79 t549.length co79)∧ax k_ (.slice Ao80 t552.length co80)∧ax k_ (.slice Ao119 t559.length co119)∧ax k_ (.slice Ao124 t567.length co124)∧ax k_ (.slice Ao125 t570.length co125)) (Kd.R_keptB (HO564.out) hkp (fun k_ hk_ hs_=>Or.elim hs_ (fun e_=>(hk_.2.2.2.2.1) e_) (fun e_=>(hk_.2.2.2.2.2.1) e_))) (fun k_ ⟨⟨a,b,c,d,f,g,h,i,j,l,m⟩,_⟩=>⟨a,b,c,d,f,g,h,i,j,l,m⟩));replace HO569:=zA (Kd.R_mono (ok':=fun k_=>ax k_ (.slice Ao45 t524.length co45)∧ax k_ (.slice Ao47 t527.length co47)∧ax k_ (.slice Ao57 t533.length co57)∧ax k_ (.slice Ao58 t536.length co58)∧ax k_ (.slice Ao68 t541.length co68)∧ax k_ (.slice Ao69 t544.length co69)∧ax k_ (.slice Ao79 t549.length co79)∧ax k_ (.slice Ao80 t552.length co80)∧ax k_ (.slice Ao119 t559.length co119)∧ax k_ (.slice Ao120 t562.length co120)∧ax k_ (.slice Ao125 t570.length co125)) (Kd.R_keptB (HO569.out) hkp (fun k_ hk_ hs_=>Or.elim hs_ (fun e_=>(hk_.2.2.2.2.1) e_) (fun e_=>(hk_.2.2.2.2.2.1) e_))) (fun k_ ⟨⟨a,b,c,d,f,g,h,i,j,l,m⟩,_⟩=>⟨a,b,c,d,f,g,h,i,j,l,m⟩));replace HO572:=zA (Kd.R_mono (ok':=fun k_=>ax k_ (.slice Ao45 t524.length co45)∧ax k_ (.slice Ao47 t527.length co47)∧ax k_ (.slice Ao57 t533.length co57)∧ax k_ (.slice Ao58 t536.length co58)∧ax k_ (.slice Ao68 t541.length co68)∧ax k_ (.slice Ao69 t544.length co69)∧ax k_ (.slice Ao79 t549.length co79)∧ax k_ (.slice Ao80 t552.length co80)∧ax k_ (.slice Ao119 t559.length co119)∧ax k_ (.slice Ao120 t562.length co120)∧ax k_ (.slice Ao124 t567.length co124)) (Kd.R_keptB (HO572.out) hkp (fun k_ hk_ hs_=>Or.elim hs_ (fun e_=>(hk_.2.2.2.2.1) e_) (fun e_=>(hk_.2.2.2.2.2.1) e_))) (fun k_ ⟨⟨a,b,c,d,f,g,h,i,j,l,m⟩,_⟩=>⟨a,b,c,d,f,g,h,i,j,l,m⟩));replace HB:=zA (hb);(try clear hb);(try clear hkp);(try clear hy0);(try clear hy1)))
        (try simp only [Act.put,ls,lz,ln])
        go_cut [86] (fun v86 wc=>∃ (kq : Nat) (x86_115 : Bool),v86 = .bool x86_115∧Aside0 (laws_FnExactMergeRules.j1 kq a2 t530 x86_115 a0_0 l0_1 l0_2 a1_0 l1_1 l1_2 t523 t524 t527 t548 t549 t552 = some r)∧Aside0 (kq ≤ kj25)∧Aside0 (Kd.R (Kd.int .i64) 2 wc w.heap.size (fun k_=>ax k_ (.slice Ao47 t527.length co47)∧ax k_ (.slice Ao57 t533.length co57)∧ax k_ (.slice Ao58 t536.length co58)∧ax k_ (.slice Ao68 t541.length co68)∧ax k_ (.slice Ao69 t544.length co69)∧ax k_ (.slice Ao79 t549.length co79)∧ax k_ (.slice Ao80 t552.length co80)) (.slice Ao45 t524.length co45) t524)∧Aside0 (Kd.R (Kd.int .i64) 2 wc w.heap.size (fun k_=>ax k_ (.slice Ao45 t524.length co45)∧ax k_ (.slice Ao57 t533.length co57)∧ax k_ (.slice Ao58 t536.length co58)∧ax k_ (.slice Ao68 t541.length co68)∧ax k_ (.slice Ao69 t544.length co69)∧ax k_ (.slice Ao79 t549.length co79)∧ax k_ (.slice Ao80 t552.length co80)) (.slice Ao47 t527.length co47) t527)∧Aside0 (Kd.R (Kd.int .i64) 2 wc w.heap.size (fun k_=>ax k_ (.slice Ao45 t524.length co45)∧ax k_ (.slice Ao47 t527.length co47)∧ax k_ (.slice Ao58 t536.length co58)∧ax k_ (.slice Ao68 t541.length co68)∧ax k_ (.slice Ao69 t544.length co69)∧ax k_ (.slice Ao79 t549.length co79)∧ax k_ (.slice Ao80 t552.length co80)) (.slice Ao57 t533.length co57) t575)∧Aside0 (Kd.R (Kd.int .i64) 2 wc w.heap.size (fun k_=>ax k_ (.slice Ao45 t524.length co45)∧ax k_ (.slice Ao47 t527.length co47)∧ax k_ (.slice Ao57 t533.length co57)∧ax k_ (.slice Ao68 t541.length co68)∧ax k_ (.slice Ao69 t544.length co69)∧ax k_ (.slice Ao79 t549.length co79)∧ax k_ (.slice Ao80 t552.length co80)) (.slice Ao58 t536.length co58) t576)∧Aside0 (Kd.R (Kd.int .i64) 2 wc w.heap.size (fun k_=>ax k_ (.slice Ao45 t524.length co45)∧ax k_ (.slice Ao47 t527.length co47)∧ax k_ (.slice Ao57 t533.length co57)∧ax k_ (.slice Ao58 t536.length co58)∧ax k_ (.slice Ao69 t544.length co69)∧ax k_ (.slice Ao79 t549.length co79)∧ax k_ (.slice Ao80 t552.length co80)) (.slice Ao68 t541.length co68) t578)∧Aside0 (Kd.R (Kd.int .i64) 2 wc w.heap.size (fun k_=>ax k_ (.slice Ao45 t524.length co45)∧ax k_ (.slice Ao47 t527.length co47)∧ax k_ (.slice Ao57 t533.length co57)∧ax k_ (.slice Ao58 t536.length co58)∧ax k_ (.slice Ao68 t541.length co68)∧ax k_ (.slice Ao79 t549.length co79)∧ax k_ (.slice Ao80 t552.length co80)) (.slice Ao69 t544.length co69) t579)∧Aside0 (Kd.R (Kd.int .i64) 2 wc w.heap.size (fun k_=>ax k_ (.slice Ao45 t524.length co45)∧ax k_ (.slice Ao47 t527.length co47)∧ax k_ (.slice Ao57 t533.length co57)∧ax k_ (.slice Ao58 t536.length co58)∧ax k_ (.slice Ao68 t541.length co68)∧ax k_ (.slice Ao69 t544.length co69)∧ax k_ (.slice Ao80 t552.length co80)) (.slice Ao79 t549.length co79) t549)∧Aside0 (Kd.R (Kd.int .i64) 2 wc w.heap.size (fun k_=>ax k_ (.slice Ao45 t524.length co45)∧ax k_ (.slice Ao47 t527.length co47)∧ax k_ (.slice Ao57 t533.length co57)∧ax k_ (.slice Ao58 t536.length co58)∧ax k_ (.slice Ao68 t541.length co68)∧ax k_ (.slice Ao69 t544.length co69)∧ax k_ (.slice Ao79 t549.length co79)) (.slice Ao80 t552.length co80) t552)∧Aside0 (wc.heap[gb505]? = some (.cells #[.int .i64 a0_0,(.slice A0_1 l0_1.length c0_1),(.slice A0_2 l0_2.length c0_2)] 49 (0,0)))∧Aside0 (wc.heap[gb506]? = some (.cells #[.int .i64 a1_0,(.slice A1_1 l1_1.length c1_1),(.slice A1_2 l1_2.length c1_2)] 49 (0,0)))∧Aside0 (wc.heap[gb531]? = some (.cells #[.int .i64 t523,(.slice Ao45 t524.length co45),(.slice Ao47 t527.length co47)] 51 (0,0)))∧Aside0 (wc.heap[gb539]? = some (.cells #[.int .i64 t532,(.slice Ao57 t533.length co57),(.slice Ao58 t536.length co58)] 51 (0,0)))∧Aside0 (wc.heap[gb547]? = some (.cells #[.int .i64 t540,(.slice Ao68 t541.length co68),(.slice Ao69 t544.length co69)] 51 (0,0)))∧Aside0 (wc.heap[gb556]? = some (.cells #[.int .i64 t548,(.slice Ao79 t549.length co79),(.slice Ao80 t552.length co80)] 51 (0,0)))∧Aside0 (Below w.heap.size w wc))
        case first =>
         have H:=HC116.out
         clear HC116
         by_cases c140 : t577 < 0
         rotate_left
         ·rw [if_neg c140] at H
          have c140b0 : decide (t577 < 0) = false:=decide_eq_false c140
          clear c140
          (first | rw [c140b0] | (simp only [i64_w,i32_w];rw [c140b0]) | skip)
          replace H:=Option.bind_eq_some_iff.mp H
          obtain ⟨t580,A1410,H⟩:=H
          replace H : (if t580 = true then (laws_FnExactMergeRules.j1 kj25 a2 t530 (t555 != t530) a0_0 l0_1 l0_2 a1_0 l1_1 l1_2 t523 t524 t527 t548 t549 t552) else (laws_FnExactMergeRules.j1 kj25 a2 t530 true a0_0 l0_1 l0_2 a1_0 l1_1 l1_2 t523 t524 t527 t548 t549 t552)) = some r:=H
          have A141:=zA A1410
          clear A1410
          by_cases c142 : t580 = true
          ·subst c142
           have H1 : (laws_FnExactMergeRules.j1 kj25 a2 t530 (t555 != t530) a0_0 l0_1 l0_2 a1_0 l1_1 l1_2 t523 t524 t527 t548 t549 t552) = some r:=by rw [if_pos rfl] at H;exact H
           clear H
           have H:=H1
           clear H1
           have H':=zA H
           clear H
           have hnb143:=NB556_505.out;have hnc143:=NB505_556.out;have hnb144:=NB556_506.out;have hnc144:=NB506_556.out;have hnb145:=NB556_531.out;have hnc145:=NB531_556.out;have hnb146:=NB556_539.out;have hnc146:=NB539_556.out;have hnb147:=NB556_547.out;have hnc147:=NB547_556.out
           have hcz148_0:=bc BK556 0
           have hcz148_1:=bc BK556 1
           have hcz148_2:=bc BK556 2
           have hfz148_0:=bf BK556 0
           have hfz148_1:=bf BK556 1
           have hfz148_2:=bf BK556 2
           have hnb149:=NB531_505.out;have hnc149:=NB505_531.out;have hnb150:=NB531_506.out;have hnc150:=NB506_531.out;have hnb151:=NB531_539.out;have hnc151:=NB539_531.out;have hnb152:=NB531_547.out;have hnc152:=NB547_531.out
           have hcz153_0:=bc BK531 0
           have hcz153_1:=bc BK531 1
           have hcz153_2:=bc BK531 2
           have hfz153_0:=bf BK531 0
           have hfz153_1:=bf BK531 1
           have hfz153_2:=bf BK531 2
           go_wp2_with (first | (go_at_call 29;(with_reducible refine (laws_eqRule.calls kj25 t548 _ _ t549 _ _ t552 t523 _ _ t524 _ _ t527 true _ ?side1 ?side2 ?side3 ?side4 ?side5 ?side6 ?side7 ?side8 A141.out).mono ?_);(case side1=>exact uC ((Kd.R_reads' HO_557001.out).2.2));(case side2=>exact (Kd.R_reads' HO_557001.out).2.1);(case side3=>exact uC ((Kd.R_reads' HO_557002.out).2.2));(case side4=>exact (Kd.R_reads' HO_557002.out).2.1);(case side5=>exact uC ((Kd.R_reads' HO_532001.out).2.2));(case side6=>exact (Kd.R_reads' HO_532001.out).2.1);(case side7=>exact uC ((Kd.R_reads' HO_532002.out).2.2));(case side8=>exact (Kd.R_reads' HO_532002.out).2.1);rintro e w154 ⟨rfl,hb⟩;replace HO_532001:=xR HO_532001 hb;replace HO_532002:=xR HO_532002 hb;replace HO_540001:=xR HO_540001 hb;replace HO_540002:=xR HO_540002 hb;replace HO_548001:=xR HO_548001 hb;replace HO_548002:=xR HO_548002 hb;replace HO_557001:=xR HO_557001 hb;replace HO_557002:=xR HO_557002 hb;replace HO561:=xR HO561 hb;replace HO564:=xR HO564 hb;replace HO569:=xR HO569 hb;replace HO572:=xR HO572 hb;replace BK505:=xB BK505 hb;replace BK506:=xB BK506 hb;replace BK531:=xB BK531 hb;replace BK539:=xB BK539 hb;replace BK547:=xB BK547 hb;replace BK556:=xB BK556 hb;replace HB:=xH HB hb;(try clear hb)))
           go_meet
           case rel=>exact ⟨_,((t555 != t530)),(by first | rfl | (simp;done) | (simp [*];done)),H',⟨by have:=HJ25.out;first | omega | exact Nat.le_refl _⟩,⟨uR (Kd.R_mono HO_532001.out (fun _ ⟨a,b,c,d,f,g,h,_⟩=>⟨a,b,c,d,f,g,h⟩))⟩,⟨uR (Kd.R_mono HO_532002.out (fun _ ⟨a,b,c,d,f,g,h,_⟩=>⟨a,b,c,d,f,g,h⟩))⟩,⟨uR (Kd.R_mono HO_540001.out (fun _ ⟨a,b,c,d,f,g,h,_⟩=>⟨a,b,c,d,f,g,h⟩))⟩,⟨uR (Kd.R_mono HO_540002.out (fun _ ⟨a,b,c,d,f,g,h,_⟩=>⟨a,b,c,d,f,g,h⟩))⟩,⟨uR (Kd.R_mono HO_548001.out (fun _ ⟨a,b,c,d,f,g,h,_⟩=>⟨a,b,c,d,f,g,h⟩))⟩,⟨uR (Kd.R_mono HO_548002.out (fun _ ⟨a,b,c,d,f,g,h,_⟩=>⟨a,b,c,d,f,g,h⟩))⟩,⟨uR (Kd.R_mono HO_557001.out (fun _ ⟨a,b,c,d,f,g,h,_⟩=>⟨a,b,c,d,f,g,h⟩))⟩,⟨uR (Kd.R_mono HO_557002.out (fun _ ⟨a,b,c,d,f,g,h,_⟩=>⟨a,b,c,d,f,g,h⟩))⟩,⟨uB BK505.out⟩,⟨uB BK506.out⟩,⟨uB BK531.out⟩,⟨uB BK539.out⟩,⟨uB BK547.out⟩,⟨uB BK556.out⟩,⟨uH HB.out⟩⟩
          ·replace c142:=Bool.eq_false_iff.mpr c142
           subst c142
           have H1 : (laws_FnExactMergeRules.j1 kj25 a2 t530 true a0_0 l0_1 l0_2 a1_0 l1_1 l1_2 t523 t524 t527 t548 t549 t552) = some r:=by rw [if_neg (show ¬ (false = true) by decide)] at H;exact H
           clear H
           have H:=H1
           clear H1
           have H':=zA H
           clear H
           have hnb155:=NB556_505.out;have hnc155:=NB505_556.out;have hnb156:=NB556_506.out;have hnc156:=NB506_556.out;have hnb157:=NB556_531.out;have hnc157:=NB531_556.out;have hnb158:=NB556_539.out;have hnc158:=NB539_556.out;have hnb159:=NB556_547.out;have hnc159:=NB547_556.out
           have hcz160_0:=bc BK556 0
           have hcz160_1:=bc BK556 1
           have hcz160_2:=bc BK556 2
           have hfz160_0:=bf BK556 0
           have hfz160_1:=bf BK556 1
           have hfz160_2:=bf BK556 2
           have hnb161:=NB531_505.out;have hnc161:=NB505_531.out;have hnb162:=NB531_506.out;have hnc162:=NB506_531.out;have hnb163:=NB531_539.out;have hnc163:=NB539_531.out;have hnb164:=NB531_547.out;have hnc164:=NB547_531.out
           have hcz165_0:=bc BK531 0
           have hcz165_1:=bc BK531 1
           have hcz165_2:=bc BK531 2
           have hfz165_0:=bf BK531 0
           have hfz165_1:=bf BK531 1
           have hfz165_2:=bf BK531 2
           go_wp2_with (first | (go_at_call 29;(with_reducible refine (laws_eqRule.calls kj25 t548 _ _ t549 _ _ t552 t523 _ _ t524 _ _ t527 false _ ?side1 ?side2 ?side3 ?side4 ?side5 ?side6 ?side7 ?side8 A141.out).mono ?_);(case side1=>exact uC ((Kd.R_reads' HO_557001.out).2.2));(case side2=>exact (Kd.R_reads' HO_557001.out).2.1);(case side3=>exact uC ((Kd.R_reads' HO_557002.out).2.2));(case side4=>exact (Kd.R_reads' HO_557002.out).2.1);(case side5=>exact uC ((Kd.R_reads' HO_532001.out).2.2));(case side6=>exact (Kd.R_reads' HO_532001.out).2.1);(case side7=>exact uC ((Kd.R_reads' HO_532002.out).2.2));(case side8=>exact (Kd.R_reads' HO_532002.out).2.1);rintro e w166 ⟨rfl,hb⟩;replace HO_532001:=xR HO_532001 hb;replace HO_532002:=xR HO_532002 hb;replace HO_540001:=xR HO_540001 hb;replace HO_540002:=xR HO_540002 hb;replace HO_548001:=xR HO_548001 hb;replace HO_548002:=xR HO_548002 hb;replace HO_557001:=xR HO_557001 hb;replace HO_557002:=xR HO_557002 hb;replace HO561:=xR HO561 hb;replace HO564:=xR HO564 hb;replace HO569:=xR HO569 hb;replace HO572:=xR HO572 hb;replace BK505:=xB BK505 hb;replace BK506:=xB BK506 hb;replace BK531:=xB BK531 hb;replace BK539:=xB BK539 hb;replace BK547:=xB BK547 hb;replace BK556:=xB BK556 hb;replace HB:=xH HB hb;(try clear hb)))
           go_meet
           case rel=>exact ⟨_,(true),(by first | rfl | (simp;done) | (simp [*];done)),H',⟨by have:=HJ25.out;first | omega | exact Nat.le_refl _⟩,⟨uR (Kd.R_mono HO_532001.out (fun _ ⟨a,b,c,d,f,g,h,_⟩=>⟨a,b,c,d,f,g,h⟩))⟩,⟨uR (Kd.R_mono HO_532002.out (fun _ ⟨a,b,c,d,f,g,h,_⟩=>⟨a,b,c,d,f,g,h⟩))⟩,⟨uR (Kd.R_mono HO_540001.out (fun _ ⟨a,b,c,d,f,g,h,_⟩=>⟨a,b,c,d,f,g,h⟩))⟩,⟨uR (Kd.R_mono HO_540002.out (fun _ ⟨a,b,c,d,f,g,h,_⟩=>⟨a,b,c,d,f,g,h⟩))⟩,⟨uR (Kd.R_mono HO_548001.out (fun _ ⟨a,b,c,d,f,g,h,_⟩=>⟨a,b,c,d,f,g,h⟩))⟩,⟨uR (Kd.R_mono HO_548002.out (fun _ ⟨a,b,c,d,f,g,h,_⟩=>⟨a,b,c,d,f,g,h⟩))⟩,⟨uR (Kd.R_mono HO_557001.out (fun _ ⟨a,b,c,d,f,g,h,_⟩=>⟨a,b,c,d,f,g,h⟩))⟩,⟨uR (Kd.R_mono HO_557002.out (fun _ ⟨a,b,c,d,f,g,h,_⟩=>⟨a,b,c,d,f,g,h⟩))⟩,⟨uB BK505.out⟩,⟨uB BK506.out⟩,⟨uB BK531.out⟩,⟨uB BK539.out⟩,⟨uB BK547.out⟩,⟨uB BK556.out⟩,⟨uH HB.out⟩⟩
         rw [if_pos c140] at H
         have c140b0 : decide (t577 < 0) = true:=decide_eq_true c140
         clear c140
         (first | rw [c140b0] | (simp only [i64_w,i32_w];rw [c140b0]) | skip)
         have H':=zA H
         clear H
         go_wp2
         go_meet
         case rel=>exact ⟨_,(true),(by first | rfl | (simp;done) | (simp [*];done)),H',⟨by have:=HJ25.out;first | omega | exact Nat.le_refl _⟩,⟨uR (Kd.R_mono HO_532001.out (fun _ ⟨a,b,c,d,f,g,h,_⟩=>⟨a,b,c,d,f,g,h⟩))⟩,⟨uR (Kd.R_mono HO_532002.out (fun _ ⟨a,b,c,d,f,g,h,_⟩=>⟨a,b,c,d,f,g,h⟩))⟩,⟨uR (Kd.R_mono HO_540001.out (fun _ ⟨a,b,c,d,f,g,h,_⟩=>⟨a,b,c,d,f,g,h⟩))⟩,⟨uR (Kd.R_mono HO_540002.out (fun _ ⟨a,b,c,d,f,g,h,_⟩=>⟨a,b,c,d,f,g,h⟩))⟩,⟨uR (Kd.R_mono HO_548001.out (fun _ ⟨a,b,c,d,f,g,h,_⟩=>⟨a,b,c,d,f,g,h⟩))⟩,⟨uR (Kd.R_mono HO_548002.out (fun _ ⟨a,b,c,d,f,g,h,_⟩=>⟨a,b,c,d,f,g,h⟩))⟩,⟨uR (Kd.R_mono HO_557001.out (fun _ ⟨a,b,c,d,f,g,h,_⟩=>⟨a,b,c,d,f,g,h⟩))⟩,⟨uR (Kd.R_mono HO_557002.out (fun _ ⟨a,b,c,d,f,g,h,_⟩=>⟨a,b,c,d,f,g,h⟩))⟩,⟨uB BK505.out⟩,⟨uB BK506.out⟩,⟨uB BK531.out⟩,⟨uB BK539.out⟩,⟨uB BK547.out⟩,⟨uB BK556.out⟩,⟨uH HB.out⟩⟩
        case rest =>
         clear HC116
         (try clear c1);(try clear c2);(try clear p2);(try clear c3);(try clear c12);(try clear c13);(try clear c14);(try clear c15);(try clear c16);(try clear c27);(try clear c29);(try clear c30);(try clear c127);(try clear c128);(try clear c129);(try clear c130);(try clear c131);(try clear c134);(try clear c135);(try clear c136);(try clear c137);(try clear c140);(try clear c140b0);(try clear c142)
         (try clear c143);(try clear c144);(try clear c145);(try clear c146);(try clear c147);(try clear c149);(try clear c150);(try clear c151);(try clear c152);(try clear c155);(try clear c156);(try clear c157);(try clear c158);(try clear c159);(try clear c161);(try clear c162);(try clear c163);(try clear c164);(try clear hcz132_0);(try clear hcz132_1);(try clear hcz132_2);(try clear hcz138_0);(try clear hcz138_1)
         (try clear hcz138_2);(try clear hcz148_0);(try clear hcz148_1);(try clear hcz148_2);(try clear hcz153_0);(try clear hcz153_1);(try clear hcz153_2);(try clear hcz160_0);(try clear hcz160_1);(try clear hcz160_2);(try clear hcz165_0);(try clear hcz165_1);(try clear hcz165_2);(try clear hfz132_0);(try clear hfz132_1);(try clear hfz132_2);(try clear hfz138_0);(try clear hfz138_1);(try clear hfz138_2)
         (try clear hfz148_0);(try clear hfz148_1);(try clear hfz148_2);(try clear hfz153_0);(try clear hfz153_1);(try clear hfz153_2);(try clear hfz160_0);(try clear hfz160_1);(try clear hfz160_2);(try clear hfz165_0);(try clear hfz165_1);(try clear hfz165_2)
         obtain ⟨kq,x86_115,rfl,HA,HJ115,HO_532001,HO_532002,HO_540001,HO_540002,HO_548001,HO_548002,HO_557001,HO_557002,BK505,BK506,BK531,BK539,BK547,BK556,HB⟩:=hcut
         have hl540001_115:=(Kd.R_reads' HO_540001.out).1
         rw [hl540001_115] at HO_540001
         (try simp only [hl540001_115])
         (try simp only [hl540001_115] at BK505)
         (try simp only [hl540001_115] at BK506)
         (try simp only [hl540001_115] at BK531)
         (try simp only [hl540001_115] at BK539)
         (try simp only [hl540001_115] at BK547)
         (try simp only [hl540001_115] at BK556)
         (try simp only [hl540001_115] at HO_532001)
         (try simp only [hl540001_115] at HO_532002)
         (try simp only [hl540001_115] at HO_540002)
         (try simp only [hl540001_115] at HO_548001)
         (try simp only [hl540001_115] at HO_548002)
         (try simp only [hl540001_115] at HO_557001)
         (try simp only [hl540001_115] at HO_557002)
         have hl540002_115:=(Kd.R_reads' HO_540002.out).1
         rw [hl540002_115] at HO_540002
         (try simp only [hl540002_115])
         (try simp only [hl540002_115] at BK505)
         (try simp only [hl540002_115] at BK506)
         (try simp only [hl540002_115] at BK531)
         (try simp only [hl540002_115] at BK539)
         (try simp only [hl540002_115] at BK547)
         (try simp only [hl540002_115] at BK556)
         (try simp only [hl540002_115] at HO_532001)
         (try simp only [hl540002_115] at HO_532002)
         (try simp only [hl540002_115] at HO_540001)
         (try simp only [hl540002_115] at HO_548001)
         (try simp only [hl540002_115] at HO_548002)
         (try simp only [hl540002_115] at HO_557001)
         (try simp only [hl540002_115] at HO_557002)
         have hl548001_115:=(Kd.R_reads' HO_548001.out).1
         rw [hl548001_115] at HO_548001
         (try simp only [hl548001_115])
         (try simp only [hl548001_115] at BK505)
         (try simp only [hl548001_115] at BK506)
         (try simp only [hl548001_115] at BK531)
         (try simp only [hl548001_115] at BK539)
         (try simp only [hl548001_115] at BK547)
         (try simp only [hl548001_115] at BK556)
         (try simp only [hl548001_115] at HO_532001)
         (try simp only [hl548001_115] at HO_532002)
         (try simp only [hl548001_115] at HO_540001)
         (try simp only [hl548001_115] at HO_540002)
         (try simp only [hl548001_115] at HO_548002)
         (try simp only [hl548001_115] at HO_557001)
         (try simp only [hl548001_115] at HO_557002)
         have hl548002_115:=(Kd.R_reads' HO_548002.out).1
         rw [hl548002_115] at HO_548002
         (try simp only [hl548002_115])
         (try simp only [hl548002_115] at BK505)
         (try simp only [hl548002_115] at BK506)
         (try simp only [hl548002_115] at BK531)
         (try simp only [hl548002_115] at BK539)
         (try simp only [hl548002_115] at BK547)
         (try simp only [hl548002_115] at BK556)
         (try simp only [hl548002_115] at HO_532001)
         (try simp only [hl548002_115] at HO_532002)
         (try simp only [hl548002_115] at HO_540001)
         (try simp only [hl548002_115] at HO_540002)
         (try simp only [hl548002_115] at HO_548001)
         (try simp only [hl548002_115] at HO_557001)
         (try simp only [hl548002_115] at HO_557002)
         cases kq with
         | zero=>exact absurd HA.out (by simp [laws_FnExactMergeRules.j1])
         | succ kj115 =>
          have H:=HA.out
          clear HA
          simp only [laws_FnExactMergeRules.j1] at H
          by_cases c167 : x86_115 = true
          ·subst c167
           have H1 : (some false) = some r:=by rw [if_pos rfl] at H;exact H
           clear H
           have H:=H1
           clear H1
           rw [HRT.out] at H
           exact absurd H (by simp)
          ·replace c167:=Bool.eq_false_iff.mpr c167
           subst c167
           have H1 : ((laws_markRule.f kj115 t548 t549 t552 1).bind fun bt581=>((laws_heldRule.f kj115 t548 bt581.2.1 bt581.2.2 1).bind fun t584=>(if t584 < 0 then (some false) else (if t584 = bt581.1 then ((laws_toRule.f kj115 a0_0 l0_1 l0_2).bind fun bt585=>((laws_toRule.f kj115 a1_0 l1_1 l1_2).bind fun bt592=>((impl_MergeRules.f kj115 bt585.1 bt585.2.1 bt585.2.2 bt592.1 bt592.2.1 bt592.2.2 a2).bind fun bt599=>((laws_eqRule.f kj115 bt599.1 bt599.2.1 bt599.2.2.1 t523 t524 t527).bind fun t608=>(if t608 = true then (laws_FnExactMergeRules.j2 kj115 bt581.1 (bt599.2.2.2 != t530) t548 bt581.2.1 bt581.2.2) else (laws_FnExactMergeRules.j2 kj115 bt581.1 true t548 bt581.2.1 bt581.2.2)))))) else (some false))))) = some r:=by rw [if_neg (show ¬ (false = true) by decide)] at H;exact H
           clear H
           have H:=H1
           clear H1
           replace H:=Option.bind_eq_some_iff.mp H
           obtain ⟨⟨t581,t582,t583⟩,A1680,H⟩:=H
           replace H : ((laws_heldRule.f kj115 t548 t582 t583 1).bind fun t584=>(if t584 < 0 then (some false) else (if t584 = t581 then ((laws_toRule.f kj115 a0_0 l0_1 l0_2).bind fun bt585=>((laws_toRule.f kj115 a1_0 l1_1 l1_2).bind fun bt592=>((impl_MergeRules.f kj115 bt585.1 bt585.2.1 bt585.2.2 bt592.1 bt592.2.1 bt592.2.2 a2).bind fun bt599=>((laws_eqRule.f kj115 bt599.1 bt599.2.1 bt599.2.2.1 t523 t524 t527).bind fun t608=>(if t608 = true then (laws_FnExactMergeRules.j2 kj115 t581 (bt599.2.2.2 != t530) t548 t582 t583) else (laws_FnExactMergeRules.j2 kj115 t581 true t548 t582 t583)))))) else (some false)))) = some r:=H
           have A168:=zA A1680
           clear A1680
           replace H:=Option.bind_eq_some_iff.mp H
           obtain ⟨t584,A1690,H⟩:=H
           replace H : (if t584 < 0 then (some false) else (if t584 = t581 then ((laws_toRule.f kj115 a0_0 l0_1 l0_2).bind fun bt585=>((laws_toRule.f kj115 a1_0 l1_1 l1_2).bind fun bt592=>((impl_MergeRules.f kj115 bt585.1 bt585.2.1 bt585.2.2 bt592.1 bt592.2.1 bt592.2.2 a2).bind fun bt599=>((laws_eqRule.f kj115 bt599.1 bt599.2.1 bt599.2.2.1 t523 t524 t527).bind fun t608=>(if t608 = true then (laws_FnExactMergeRules.j2 kj115 t581 (bt599.2.2.2 != t530) t548 t582 t583) else (laws_FnExactMergeRules.j2 kj115 t581 true t548 t582 t583)))))) else (some false))) = some r:=H
           have A169:=zA A1690
           clear A1690
           by_cases c170 : t584 < 0
           rotate_left
           ·rw [if_neg c170] at H
            have c170b0 : decide (t584 < 0) = false:=decide_eq_false c170
            clear c170
            by_cases c171 : t584 = t581
            rotate_left
            ·rw [if_neg c171] at H
             have c171b0 : (t584 == t581) = false:=beq_eq_false_iff_ne.mpr c171
             have c171b1 : (t584 != t581) = true:=bne_iff_ne.mpr c171
             rw [HRT.out] at H
             exact absurd H (by simp)
            rw [if_pos c171] at H
            have c171b0 : (t584 == t581) = true:=beq_iff_eq.mpr c171
            have c171b1 : (t584 != t581) = false:=bne_eq_false_iff_eq.mpr c171
            clear c171
            replace H:=Option.bind_eq_some_iff.mp H
            obtain ⟨⟨t585,t586,t589⟩,A1720,H⟩:=H
            replace H : ((laws_toRule.f kj115 a1_0 l1_1 l1_2).bind fun bt592=>((impl_MergeRules.f kj115 t585 t586 t589 bt592.1 bt592.2.1 bt592.2.2 a2).bind fun bt599=>((laws_eqRule.f kj115 bt599.1 bt599.2.1 bt599.2.2.1 t523 t524 t527).bind fun t608=>(if t608 = true then (laws_FnExactMergeRules.j2 kj115 t581 (bt599.2.2.2 != t530) t548 t582 t583) else (laws_FnExactMergeRules.j2 kj115 t581 true t548 t582 t583))))) = some r:=H
            have A172:=zA A1720
            clear A1720
            replace H:=Option.bind_eq_some_iff.mp H
            obtain ⟨⟨t592,t593,t596⟩,A1730,H⟩:=H
            replace H : ((impl_MergeRules.f kj115 t585 t586 t589 t592 t593 t596 a2).bind fun bt599=>((laws_eqRule.f kj115 bt599.1 bt599.2.1 bt599.2.2.1 t523 t524 t527).bind fun t608=>(if t608 = true then (laws_FnExactMergeRules.j2 kj115 t581 (bt599.2.2.2 != t530) t548 t582 t583) else (laws_FnExactMergeRules.j2 kj115 t581 true t548 t582 t583)))) = some r:=H
            have A173:=zA A1730
            clear A1730
            replace H:=Option.bind_eq_some_iff.mp H
            obtain ⟨⟨t599,t600,t603,t606⟩,A1740,H⟩:=H
            replace H : ((laws_eqRule.f kj115 t599 t600 t603 t523 t524 t527).bind fun t608=>(if t608 = true then (laws_FnExactMergeRules.j2 kj115 t581 (t606 != t530) t548 t582 t583) else (laws_FnExactMergeRules.j2 kj115 t581 true t548 t582 t583))) = some r:=H
            have A174:=zA A1740
            clear A1740
            have HC175:=zA H
            clear H
            have hnb176:=NB556_505.out;have hnc176:=NB505_556.out;have hnb177:=NB556_506.out;have hnc177:=NB506_556.out;have hnb178:=NB556_531.out;have hnc178:=NB531_556.out;have hnb179:=NB556_539.out;have hnc179:=NB539_556.out;have hnb180:=NB556_547.out;have hnc180:=NB547_556.out
            have hcz181_0:=bc BK556 0
            have hcz181_1:=bc BK556 1
            have hcz181_2:=bc BK556 2
            have hfz181_0:=bf BK556 0
            have hfz181_1:=bf BK556 1
            have hfz181_2:=bf BK556 2
            try go_wp2_with (first | ((with_reducible refine gate_callee (f:=30) rfl ?_);refine gL (some 89) Try.func30 #[.agg #[.int .i64 t548,.slice Ao79 t549.length co79,.slice Ao80 t552.length co80],.int .i64 1] ?_;(with_reducible refine (laws_markRule.calls kj115 t548 (fun k_=>some k_ = (.slice Ao79 t549.length co79 : Value).ownBlock) (.slice Ao79 t549.length co79) t549 (fun k_=>some k_ = (.slice Ao80 t552.length co80 : Value).ownBlock) (.slice Ao80 t552.length co80) t552 1 t581 t582 t583 w _ ?side1 ?side2 ?side3 ?side4 ?side5 A168.out).mono ?_);(case side1=>repeat (first | (with_reducible first | exact HB.out | apply below_alloc | apply pw_below_drewN | apply below_drew1 | refine below_set ?_ GE505.out | refine below_set ?_ GE506.out | refine below_set ?_ GE531.out | refine below_set ?_ GE539.out | refine below_set ?_ GE547.out | refine below_set ?_ GE556.out) | exact HB.out));(case side2=>exact Kd.R_tight rfl HO_557001.out);(case side3=>exact fun k_ e_=>(HO_557001.out.1 k_ e_.symm).2.2.2.2.2.2);(case side4=>exact Kd.R_tight rfl HO_557002.out);(case side5=>exact fun k_ e_=>(HO_557002.out.1 k_ e_.symm).2.2.2.2.2.2);rintro e w182 ⟨rfl,hy0,hy1,hb,hkp⟩;refine ⟨_,rfl,?_⟩;replace HO_532001:=zA (Kd.R_mono (ok':=fun k_=>ax k_ (.slice Ao47 t527.length co47)∧ax k_ (.slice Ao57 t575.length co57)∧ax k_ (.slice Ao58 t576.length co58)∧ax k_ (.slice Ao68 t578.length co68)∧ax k_ (.slice Ao69 t579.length co69)∧ax k_ (.slice Ao79 t549.length co79)∧ax k_ (.slice Ao80 t552.length co80)) (Kd.R_keptB (HO_532001.out) hkp (fun k_ hk_ hs_=>Or.elim hs_ (fun e_=>(hk_.2.2.2.2.2.1) e_) (fun e_=>(hk_.2.2.2.2.2.2) e_))) (fun k_ ⟨⟨a,b,c,d,f,g,h⟩,_⟩=>⟨a,b,c,d,f,g,h⟩));replace HO_532002:=zA (Kd.R_mono (ok':=fun k_=>ax k_ (.slice Ao45 t524.length co45)∧ax k_ (.slice Ao57 t575.length co57)∧ax k_ (.slice Ao58 t576.length co58)∧ax k_ (.slice Ao68 t578.length co68)∧ax k_ (.slice Ao69 t579.length co69)∧ax k_ (.slice Ao79 t549.length co79)∧ax k_ (.slice Ao80 t552.length co80)) (Kd.R_keptB (HO_532002.out) hkp (fun k_ hk_ hs_=>Or.elim hs_ (fun e_=>(hk_.2.2.2.2.2.1) e_) (fun e_=>(hk_.2.2.2.2.2.2) e_))) (fun k_ ⟨⟨a,b,c,d,f,g,h⟩,_⟩=>⟨a,b,c,d,f,g,h⟩));replace HO_540001:=zA (Kd.R_mono (ok':=fun k_=>ax k_ (.slice Ao45 t524.length co45)∧ax k_ (.slice Ao47 t527.length co47)∧ax k_ (.slice Ao58 t576.length co58)∧ax k_ (.slice Ao68 t578.length co68)∧ax k_ (.slice Ao69 t579.length co69)∧ax k_ (.slice Ao79 t549.length co79)∧ax k_ (.slice Ao80 t552.length co80)) (Kd.R_keptB (HO_540001.out) hkp (fun k_ hk_ hs_=>Or.elim hs_ (fun e_=>(hk_.2.2.2.2.2.1) e_) (fun e_=>(hk_.2.2.2.2.2.2) e_))) (fun k_ ⟨⟨a,b,c,d,f,g,h⟩,_⟩=>⟨a,b,c,d,f,g,h⟩));replace HO_540002:=zA (Kd.R_mono (ok':=fun k_=>ax k_ (.slice Ao45 t524.length co45)∧ax k_ (.slice Ao47 t527.length co47)∧ax k_ (.slice Ao57 t575.length co57)∧ax k_ (.slice Ao68 t578.length co68)∧ax k_ (.slice Ao69 t579.length co69)∧ax k_ (.slice Ao79 t549.length co79)∧ax k_ (.slice Ao80 t552.length co80)) (Kd.R_keptB (HO_540002.out) hkp (fun k_ hk_ hs_=>Or.elim hs_ (fun e_=>(hk_.2.2.2.2.2.1) e_) (fun e_=>(hk_.2.2.2.2.2.2) e_))) (fun k_ ⟨⟨a,b,c,d,f,g,h⟩,_⟩=>⟨a,b,c,d,f,g,h⟩));replace HO_548001:=zA (Kd.R_mono (ok':=fun k_=>ax k_ (.slice Ao45 t524.length co45)∧ax k_ (.slice Ao47 t527.length co47)∧ax k_ (.slice Ao57 t575.length co57)∧ax k_ (.slice Ao58 t576.length co58)∧ax k_ (.slice Ao69 t579.length co69)∧ax k_ (.slice Ao79 t549.length co79)∧ax k_ (.slice Ao80 t552.length co80)) (Kd.R_keptB (HO_548001.out) hkp (fun k_ hk_ hs_=>Or.elim hs_ (fun e_=>(hk_.2.2.2.2.2.1) e_) (fun e_=>(hk_.2.2.2.2.2.2) e_))) (fun k_ ⟨⟨a,b,c,d,f,g,h⟩,_⟩=>⟨a,b,c,d,f,g,h⟩));replace HO_548002:=zA (Kd.R_mono (ok':=fun k_=>ax k_ (.slice Ao45 t524.length co45)∧ax k_ (.slice Ao47 t527.length co47)∧ax k_ (.slice Ao57 t575.length co57)∧ax k_ (.slice Ao58 t576.length co58)∧ax k_ (.slice Ao68 t578.length co68)∧ax k_ (.slice Ao79 t549.length co79)∧ax k_ (.slice Ao80 t552.length co80)) (Kd.R_keptB (HO_548002.out) hkp (fun k_ hk_ hs_=>Or.elim hs_ (fun e_=>(hk_.2.2.2.2.2.1) e_) (fun e_=>(hk_.2.2.2.2.2.2) e_))) (fun k_ ⟨⟨a,b,c,d,f,g,h⟩,_⟩=>⟨a,b,c,d,f,g,h⟩));replace BK505:=zA (blk_kept (uB BK505.out) hkp (fun hs_=>Or.elim hs_ (fun e_=>(fun e_=>(Kd.R_ne HO_557001.out BK505.out (by decide)) e_) e_) (fun e_=>(fun e_=>(Kd.R_ne HO_557002.out BK505.out (by decide)) e_) e_)));replace BK506:=zA (blk_kept (uB BK506.out) hkp (fun hs_=>Or.elim hs_ (fun e_=>(fun e_=>(Kd.R_ne HO_557001.out BK506.out (by decide)) e_) e_) (fun e_=>(fun e_=>(Kd.R_ne HO_557002.out BK506.out (by decide)) e_) e_)));replace BK531:=zA (blk_kept (uB BK531.out) hkp (fun hs_=>Or.elim hs_ (fun e_=>(fun e_=>(Kd.R_ne HO_557001.out BK531.out (by decide)) e_) e_) (fun e_=>(fun e_=>(Kd.R_ne HO_557002.out BK531.out (by decide)) e_) e_)));replace BK539:=zA (blk_kept (uB BK539.out) hkp (fun hs_=>Or.elim hs_ (fun e_=>(fun e_=>(Kd.R_ne HO_557001.out BK539.out (by decide)) e_) e_) (fun e_=>(fun e_=>(Kd.R_ne HO_557002.out BK539.out (by decide)) e_) e_)));replace BK547:=zA (blk_kept (uB BK547.out) hkp (fun hs_=>Or.elim hs_ (fun e_=>(fun e_=>(Kd.R_ne HO_557001.out BK547.out (by decide)) e_) e_) (fun e_=>(fun e_=>(Kd.R_ne HO_557002.out BK547.out (by decide)) e_) e_)));replace BK556:=zA (blk_kept (uB BK556.out) hkp (fun hs_=>Or.elim hs_ (fun e_=>(fun e_=>(Kd.R_ne HO_557001.out BK556.out (by decide)) e_) e_) (fun e_=>(fun e_=>(Kd.R_ne HO_557002.out BK556.out (by decide)) e_) e_)));replace HO_557001:=zA (Kd.R_reok rfl hy0 (fun k_ e_=>HO_557001.out.1 k_ e_));replace HO_557002:=zA (Kd.R_reok rfl hy1 (fun k_ e_=>HO_557002.out.1 k_ e_));replace HB:=zA (hb);(try clear hb);(try clear hkp);(try clear hy0);(try clear hy1);have hcz183_0:=bc BK556 0;have hcz183_1:=bc BK556 1;have hcz183_2:=bc BK556 2;have hfz183_0:=bf BK556 0;have hfz183_1:=bf BK556 1;have hfz183_2:=bf BK556 2) | ((with_reducible refine gate_callee (f:=31) rfl ?_);refine goesL_ (some 92) rfl rfl Try.func31 (by kernel_rfl) rfl #[.agg #[.int .i64 t548,.slice Ao79 t582.length co79,.slice Ao80 t583.length co80],.int .i64 1] rfl (by (try simp only [la,lb,lc]);first | done | (rw [show t582.length = t549.length from (Kd.R_reads' HO_557001.out).1.symm,show t583.length = t552.length from (Kd.R_reads' HO_557002.out).1.symm] <;> rfl) | rfl | (simp only [ld,le];rfl)) ?_;(with_reducible refine (laws_heldRule.calls kj115 t548 _ _ t582 _ _ t583 1 t584 _ ?side1 ?side2 ?side3 ?side4 A169.out).mono ?_);(case side1=>exact uC ((Kd.R_reads' HO_557001.out).2.2));(case side2=>rw [show t582.length = t549.length from (Kd.R_reads' HO_557001.out).1.symm];exact (Kd.R_reads' HO_557001.out).2.1);(case side3=>exact uC ((Kd.R_reads' HO_557002.out).2.2));(case side4=>rw [show t583.length = t552.length from (Kd.R_reads' HO_557002.out).1.symm];exact (Kd.R_reads' HO_557002.out).2.1);rintro e w184 ⟨rfl,hb⟩;refine ⟨_,rfl,?_⟩;replace HO_532001:=xR HO_532001 hb;replace HO_532002:=xR HO_532002 hb;replace HO_540001:=xR HO_540001 hb;replace HO_540002:=xR HO_540002 hb;replace HO_548001:=xR HO_548001 hb;replace HO_548002:=xR HO_548002 hb;replace HO_557001:=xR HO_557001 hb;replace HO_557002:=xR HO_557002 hb;replace BK505:=xB BK505 hb;replace BK506:=xB BK506 hb;replace BK531:=xB BK531 hb;replace BK539:=xB BK539 hb;replace BK547:=xB BK547 hb;replace BK556:=xB BK556 hb;replace HB:=xH HB hb;(try clear hb)))
            replace HO_532001:=zA (Kd.R_drew HO_532001.out)
            replace HO_532002:=zA (Kd.R_drew HO_532002.out)
            replace HO_540001:=zA (Kd.R_drew HO_540001.out)
            replace HO_540002:=zA (Kd.R_drew HO_540002.out)
            replace HO_548001:=zA (Kd.R_drew HO_548001.out)
            replace HO_548002:=zA (Kd.R_drew HO_548002.out)
            replace HO_557001:=zA (Kd.R_drew HO_557001.out)
            replace HO_557002:=zA (Kd.R_drew HO_557002.out)
            replace BK505:=zA (blk_drew BK505.out)
            replace BK506:=zA (blk_drew BK506.out)
            replace BK531:=zA (blk_drew BK531.out)
            replace BK539:=zA (blk_drew BK539.out)
            replace BK547:=zA (blk_drew BK547.out)
            replace BK556:=zA (blk_drew BK556.out)
            replace HB:=zA (below_drew1 HB.out)
            refine start_ (n:=12) (S:=fun w'=>w'.cell? ⟨gb505,0,none⟩ = some (.int .i64 a0_0)∧w'.cell? ⟨gb505,1,none⟩ = some (.slice A0_1 l0_1.length c0_1)∧w'.cell? ⟨gb505,2,none⟩ = some (.slice A0_2 l0_2.length c0_2)∧w'.cell? ⟨gb506,0,none⟩ = some (.int .i64 a1_0)∧w'.cell? ⟨gb506,1,none⟩ = some (.slice A1_1 l1_1.length c1_1)∧w'.cell? ⟨gb506,2,none⟩ = some (.slice A1_2 l1_2.length c1_2)) (ds:=[]) #[false,false,false,false,false,false,false,false,false,false,false,false] (by kernel_rfl) rfl rfl ⟨bcu BK505 0,bcu BK505 1,bcu BK505 2,bcu BK506 0,bcu BK506 1,bcu BK506 2⟩ (fun hHeld=>?_);refine with_tabW laws_FnExactMergeRules.tab31 laws_FnExactMergeRules.bits31 (fun HT_ HW_=>?_)
            generalize w184.drew = w185 at HO_532001 HO_532002 HO_540001 HO_540002 HO_548001 HO_548002 HO_557001 HO_557002 BK505 BK506 BK531 BK539 BK547 BK556 HB hHeld ⊢
            refine pu_ 4 103 (bl 12 16) HT_ ?_
            refine ta_ 0 99 (bl 12 17) HT_ HW_ hHeld ?_
            refine ta_ 2 101 (bl 12 21) HT_ HW_ hHeld ?_
            refine join_ (σ:=Value × Value × Value × Value × Value × Value × Nat) 2 (bl 12 1023) (fun s_=>[(100,.agg #[.int .i64 t585,s_.1,s_.2.1]),(102,.agg #[.int .i64 t592,s_.2.2.1,s_.2.2.2.1]),(104,.tuple #[.agg #[.int .i64 t599,s_.2.2.2.2.1,s_.2.2.2.2.2.1],.int .i64 t606]),(17,.pointer (some ⟨s_.2.2.2.2.2.2,0,none⟩)),(98,.tuple #[.agg #[.int .i64 t599,s_.2.2.2.2.1,s_.2.2.2.2.2.1],.int .i64 t606]),(105,.agg #[.int .i64 t599,s_.2.2.2.2.1,s_.2.2.2.2.2.1]),(106,.int .i64 t606)]) (fun s_ w'=>(w'.cell? ⟨gb505,0,none⟩ = some (.int .i64 a0_0)∧w'.cell? ⟨gb505,1,none⟩ = some (.slice A0_1 l0_1.length c0_1)∧w'.cell? ⟨gb505,2,none⟩ = some (.slice A0_2 l0_2.length c0_2)∧w'.cell? ⟨gb506,0,none⟩ = some (.int .i64 a1_0)∧w'.cell? ⟨gb506,1,none⟩ = some (.slice A1_1 l1_1.length c1_1)∧w'.cell? ⟨gb506,2,none⟩ = some (.slice A1_2 l1_2.length c1_2))∧(Kd.R (Kd.int .i64) 2 w' w.heap.size (fun k_=>ax k_ s_.2.1∧ax k_ s_.2.2.1∧ax k_ s_.2.2.2.1∧ax k_ s_.2.2.2.2.1∧ax k_ s_.2.2.2.2.2.1∧ax k_ (.slice Ao45 t524.length co45)∧ax k_ (.slice Ao47 t527.length co47)∧ax k_ (.slice Ao57 t575.length co57)∧ax k_ (.slice Ao58 t576.length co58)∧ax k_ (.slice Ao68 t578.length co68)∧ax k_ (.slice Ao69 t579.length co69)∧ax k_ (.slice Ao79 t549.length co79)∧ax k_ (.slice Ao80 t552.length co80)) s_.1 t586)∧(Kd.R (Kd.int .i64) 2 w' w.heap.size (fun k_=>ax k_ s_.1∧ax k_ s_.2.2.1∧ax k_ s_.2.2.2.1∧ax k_ s_.2.2.2.2.1∧ax k_ s_.2.2.2.2.2.1∧ax k_ (.slice Ao45 t524.length co45)∧ax k_ (.slice Ao47 t527.length co47)∧ax k_ (.slice Ao57 t575.length co57)∧ax k_ (.slice Ao58 t576.length co58)∧ax k_ (.slice Ao68 t578.length co68)∧ax k_ (.slice Ao69 t579.length co69)∧ax k_ (.slice Ao79 t549.length co79)∧ax k_ (.slice Ao80 t552.length co80)) s_.2.1 t589)∧(Kd.R (Kd.int .i64) 2 w' w.heap.size (fun k_=>ax k_ s_.1∧ax k_ s_.2.1∧ax k_ s_.2.2.2.1∧ax k_ s_.2.2.2.2.1∧ax k_ s_.2.2.2.2.2.1∧ax k_ (.slice Ao45 t524.length co45)∧ax k_ (.slice Ao47 t527.length co47)∧ax k_ (.slice Ao57 t575.length co57)∧ax k_ (.slice Ao58 t576.length co58)∧ax k_ (.slice Ao68 t578.length co68)∧ax k_ (.slice Ao69 t579.length co69)∧ax k_ (.slice Ao79 t549.length co79)∧ax k_ (.slice Ao80 t552.length co80)) s_.2.2.1 t593)∧(Kd.R (Kd.int .i64) 2 w' w.heap.size (fun k_=>ax k_ s_.1∧ax k_ s_.2.1∧ax k_ s_.2.2.1∧ax k_ s_.2.2.2.2.1∧ax k_ s_.2.2.2.2.2.1∧ax k_ (.slice Ao45 t524.length co45)∧ax k_ (.slice Ao47 t527.length co47)∧ax k_ (.slice Ao57 t575.length co57)∧ax k_ (.slice Ao58 t576.length co58)∧ax k_ (.slice Ao68 t578.length co68)∧ax k_ (.slice Ao69 t579.length co69)∧ax k_ (.slice Ao79 t549.length co79)∧ax k_ (.slice Ao80 t552.length co80)) s_.2.2.2.1 t596)∧(Kd.R (Kd.int .i64) 2 w' w.heap.size (fun k_=>ax k_ s_.1∧ax k_ s_.2.1∧ax k_ s_.2.2.1∧ax k_ s_.2.2.2.1∧ax k_ s_.2.2.2.2.2.1∧ax k_ (.slice Ao45 t524.length co45)∧ax k_ (.slice Ao47 t527.length co47)∧ax k_ (.slice Ao57 t575.length co57)∧ax k_ (.slice Ao58 t576.length co58)∧ax k_ (.slice Ao68 t578.length co68)∧ax k_ (.slice Ao69 t579.length co69)∧ax k_ (.slice Ao79 t549.length co79)∧ax k_ (.slice Ao80 t552.length co80)) s_.2.2.2.2.1 t600)∧(Kd.R (Kd.int .i64) 2 w' w.heap.size (fun k_=>ax k_ s_.1∧ax k_ s_.2.1∧ax k_ s_.2.2.1∧ax k_ s_.2.2.2.1∧ax k_ s_.2.2.2.2.1∧ax k_ (.slice Ao45 t524.length co45)∧ax k_ (.slice Ao47 t527.length co47)∧ax k_ (.slice Ao57 t575.length co57)∧ax k_ (.slice Ao58 t576.length co58)∧ax k_ (.slice Ao68 t578.length co68)∧ax k_ (.slice Ao69 t579.length co69)∧ax k_ (.slice Ao79 t549.length co79)∧ax k_ (.slice Ao80 t552.length co80)) s_.2.2.2.2.2.1 t603)∧(Kd.R (Kd.int .i64) 2 w' w.heap.size (fun k_=>ax k_ s_.1∧ax k_ s_.2.1∧ax k_ s_.2.2.1∧ax k_ s_.2.2.2.1∧ax k_ s_.2.2.2.2.1∧ax k_ s_.2.2.2.2.2.1∧ax k_ (.slice Ao47 t527.length co47)∧ax k_ (.slice Ao57 t575.length co57)∧ax k_ (.slice Ao58 t576.length co58)∧ax k_ (.slice Ao68 t578.length co68)∧ax k_ (.slice Ao69 t579.length co69)∧ax k_ (.slice Ao79 t549.length co79)∧ax k_ (.slice Ao80 t552.length co80)) (.slice Ao45 t524.length co45) t524)∧(Kd.R (Kd.int .i64) 2 w' w.heap.size (fun k_=>ax k_ s_.1∧ax k_ s_.2.1∧ax k_ s_.2.2.1∧ax k_ s_.2.2.2.1∧ax k_ s_.2.2.2.2.1∧ax k_ s_.2.2.2.2.2.1∧ax k_ (.slice Ao45 t524.length co45)∧ax k_ (.slice Ao57 t575.length co57)∧ax k_ (.slice Ao58 t576.length co58)∧ax k_ (.slice Ao68 t578.length co68)∧ax k_ (.slice Ao69 t579.length co69)∧ax k_ (.slice Ao79 t549.length co79)∧ax k_ (.slice Ao80 t552.length co80)) (.slice Ao47 t527.length co47) t527)∧(Kd.R (Kd.int .i64) 2 w' w.heap.size (fun k_=>ax k_ s_.1∧ax k_ s_.2.1∧ax k_ s_.2.2.1∧ax k_ s_.2.2.2.1∧ax k_ s_.2.2.2.2.1∧ax k_ s_.2.2.2.2.2.1∧ax k_ (.slice Ao45 t524.length co45)∧ax k_ (.slice Ao47 t527.length co47)∧ax k_ (.slice Ao58 t576.length co58)∧ax k_ (.slice Ao68 t578.length co68)∧ax k_ (.slice Ao69 t579.length co69)∧ax k_ (.slice Ao79 t549.length co79)∧ax k_ (.slice Ao80 t552.length co80)) (.slice Ao57 t575.length co57) t575)∧(Kd.R (Kd.int .i64) 2 w' w.heap.size (fun k_=>ax k_ s_.1∧ax k_ s_.2.1∧ax k_ s_.2.2.1∧ax k_ s_.2.2.2.1∧ax k_ s_.2.2.2.2.1∧ax k_ s_.2.2.2.2.2.1∧ax k_ (.slice Ao45 t524.length co45)∧ax k_ (.slice Ao47 t527.length co47)∧ax k_ (.slice Ao57 t575.length co57)∧ax k_ (.slice Ao68 t578.length co68)∧ax k_ (.slice Ao69 t579.length co69)∧ax k_ (.slice Ao79 t549.length co79)∧ax k_ (.slice Ao80 t552.length co80)) (.slice Ao58 t576.length co58) t576)∧(Kd.R (Kd.int .i64) 2 w' w.heap.size (fun k_=>ax k_ s_.1∧ax k_ s_.2.1∧ax k_ s_.2.2.1∧ax k_ s_.2.2.2.1∧ax k_ s_.2.2.2.2.1∧ax k_ s_.2.2.2.2.2.1∧ax k_ (.slice Ao45 t524.length co45)∧ax k_ (.slice Ao47 t527.length co47)∧ax k_ (.slice Ao57 t575.length co57)∧ax k_ (.slice Ao58 t576.length co58)∧ax k_ (.slice Ao69 t579.length co69)∧ax k_ (.slice Ao79 t549.length co79)∧ax k_ (.slice Ao80 t552.length co80)) (.slice Ao68 t578.length co68) t578)∧(Kd.R (Kd.int .i64) 2 w' w.heap.size (fun k_=>ax k_ s_.1∧ax k_ s_.2.1∧ax k_ s_.2.2.1∧ax k_ s_.2.2.2.1∧ax k_ s_.2.2.2.2.1∧ax k_ s_.2.2.2.2.2.1∧ax k_ (.slice Ao45 t524.length co45)∧ax k_ (.slice Ao47 t527.length co47)∧ax k_ (.slice Ao57 t575.length co57)∧ax k_ (.slice Ao58 t576.length co58)∧ax k_ (.slice Ao68 t578.length co68)∧ax k_ (.slice Ao79 t549.length co79)∧ax k_ (.slice Ao80 t552.length co80)) (.slice Ao69 t579.length co69) t579)∧(Kd.R (Kd.int .i64) 2 w' w.heap.size (fun k_=>ax k_ s_.1∧ax k_ s_.2.1∧ax k_ s_.2.2.1∧ax k_ s_.2.2.2.1∧ax k_ s_.2.2.2.2.1∧ax k_ s_.2.2.2.2.2.1∧ax k_ (.slice Ao45 t524.length co45)∧ax k_ (.slice Ao47 t527.length co47)∧ax k_ (.slice Ao57 t575.length co57)∧ax k_ (.slice Ao58 t576.length co58)∧ax k_ (.slice Ao68 t578.length co68)∧ax k_ (.slice Ao69 t579.length co69)∧ax k_ (.slice Ao80 t552.length co80)) (.slice Ao79 t549.length co79) t582)∧(Kd.R (Kd.int .i64) 2 w' w.heap.size (fun k_=>ax k_ s_.1∧ax k_ s_.2.1∧ax k_ s_.2.2.1∧ax k_ s_.2.2.2.1∧ax k_ s_.2.2.2.2.1∧ax k_ s_.2.2.2.2.2.1∧ax k_ (.slice Ao45 t524.length co45)∧ax k_ (.slice Ao47 t527.length co47)∧ax k_ (.slice Ao57 t575.length co57)∧ax k_ (.slice Ao58 t576.length co58)∧ax k_ (.slice Ao68 t578.length co68)∧ax k_ (.slice Ao69 t579.length co69)∧ax k_ (.slice Ao79 t549.length co79)) (.slice Ao80 t552.length co80) t583)∧(w'.heap[gb505]? = some (.cells #[.int .i64 a0_0,.slice A0_1 l0_1.length c0_1,.slice A0_2 l0_2.length c0_2] 49 (0,0)))∧(w'.heap[gb506]? = some (.cells #[.int .i64 a1_0,.slice A1_1 l1_1.length c1_1,.slice A1_2 l1_2.length c1_2] 49 (0,0)))∧(w'.heap[gb531]? = some (.cells #[.int .i64 t523,.slice Ao45 t524.length co45,.slice Ao47 t527.length co47] 51 (0,0)))∧(w'.heap[gb539]? = some (.cells #[.int .i64 t532,.slice Ao57 t575.length co57,.slice Ao58 t576.length co58] 51 (0,0)))∧(w'.heap[gb547]? = some (.cells #[.int .i64 t540,.slice Ao68 t578.length co68,.slice Ao69 t579.length co69] 51 (0,0)))∧(w'.heap[gb556]? = some (.cells #[.int .i64 t548,.slice Ao79 t549.length co79,.slice Ao80 t552.length co80] 51 (0,0)))∧(w'.heap[s_.2.2.2.2.2.2]? = some (.cells #[.int .i64 0,.slice none 0 0,.slice none 0 0] 51 (0,0)))∧(w.heap.size ≤ s_.2.2.2.2.2.2)∧(w.heap.size ≤ s_.2.2.2.2.2.2)∧(gb505 ≠ s_.2.2.2.2.2.2)∧(s_.2.2.2.2.2.2 ≠ gb505)∧(gb506 ≠ s_.2.2.2.2.2.2)∧(s_.2.2.2.2.2.2 ≠ gb506)∧(gb531 ≠ s_.2.2.2.2.2.2)∧(s_.2.2.2.2.2.2 ≠ gb531)∧(gb539 ≠ s_.2.2.2.2.2.2)∧(s_.2.2.2.2.2.2 ≠ gb539)∧(gb547 ≠ s_.2.2.2.2.2.2)∧(s_.2.2.2.2.2.2 ≠ gb547)∧(gb556 ≠ s_.2.2.2.2.2.2)∧(s_.2.2.2.2.2.2 ≠ gb556)∧(Below w.heap.size w w')) ?_ ?_
            rotate_left
            ·intro hCont
             refine two_ (i:=1) (j:=9) (Ni:=some 100) (Nj:=some 17) (bl 12 23) (bl 12 533) rfl rfl rfl rfl (two_of HT_.out (by kernel_rfl)) (by decide) (by decide) (fun K hK=>?_) (fun K hK=>?_)
             ·skip
              refine gS Try.func27 #[.agg #[.int .i64 a0_0,.slice A0_1 l0_1.length c0_1,.slice A0_2 l0_2.length c0_2]] ?_
              with_reducible refine (laws_toRule.calls kj115 a0_0 _ _ l0_1 _ _ l0_2 t585 t586 t589 _ ?side1 ?side2 ?side3 ?side4 A172.out).mono ?_
              (case side1=>exact uC ((Kd.C_below HR0_1.out HB.out)))
              (case side2=>exact HC0_1.out)
              (case side3=>exact uC ((Kd.C_below HR0_2.out HB.out)))
              (case side4=>exact HC0_2.out)
              rintro e w186 ⟨v587,v590,rfl,ho0,ho1,hb⟩
              refine ⟨_,rfl,?_⟩
              have HO588:=zA (Kd.R_lower (nw (nw (nw (nw (nw (nw (nw (nw ho0 (uR HO_532001.out)) (uR HO_532002.out)) (uR HO_540001.out)) (uR HO_540002.out)) (uR HO_548001.out)) (uR HO_548002.out)) (uR HO_557001.out)) (uR HO_557002.out)) (below_size (uH HB.out)))
              have HO591:=zA (Kd.R_lower (nw (nw (nw (nw (nw (nw (nw (nw ho1 (uR HO_532001.out)) (uR HO_532002.out)) (uR HO_540001.out)) (uR HO_540002.out)) (uR HO_548001.out)) (uR HO_548002.out)) (uR HO_557001.out)) (uR HO_557002.out)) (below_size (uH HB.out)))
              replace HO_532001:=td2 (uR HO_532001.out) hb ho0 ho1
              replace HO_532002:=td2 (uR HO_532002.out) hb ho0 ho1
              replace HO_540001:=td2 (uR HO_540001.out) hb ho0 ho1
              replace HO_540002:=td2 (uR HO_540002.out) hb ho0 ho1
              replace HO_548001:=td2 (uR HO_548001.out) hb ho0 ho1
              replace HO_548002:=td2 (uR HO_548002.out) hb ho0 ho1
              replace HO_557001:=td2 (uR HO_557001.out) hb ho0 ho1
              replace HO_557002:=td2 (uR HO_557002.out) hb ho0 ho1
              replace BK505:=xB BK505 hb
              replace BK506:=xB BK506 hb
              replace BK531:=xB BK531 hb
              replace BK539:=xB BK539 hb
              replace BK547:=xB BK547 hb
              replace BK556:=xB BK556 hb
              replace HB:=xH HB hb
              (try clear hb);(try clear ho0);(try clear ho1)
              refine hK.out _ _ ⟨bcu BK505 0,bcu BK505 1,bcu BK505 2,bcu BK506 0,bcu BK506 1,bcu BK506 2⟩ (fun hHeld=>?_)
              clear hK K
              refine no_ 100 ?_
              refine two_ (i:=3) (j:=9) (Ni:=some 102) (Nj:=some 17) (bl 12 31) (bl 12 535) rfl rfl rfl rfl (two_of HT_.out (by kernel_rfl)) (by decide) (by decide) (fun K hK=>?_) (fun K hK=>?_)
              ·skip
               refine gS Try.func27 #[.agg #[.int .i64 a1_0,.slice A1_1 l1_1.length c1_1,.slice A1_2 l1_2.length c1_2]] ?_
               with_reducible refine (laws_toRule.calls kj115 a1_0 _ _ l1_1 _ _ l1_2 t592 t593 t596 _ ?side1 ?side2 ?side3 ?side4 A173.out).mono ?_
               (case side1=>exact uC ((Kd.C_below HR1_1.out HB.out)))
               (case side2=>exact HC1_1.out)
               (case side3=>exact uC ((Kd.C_below HR1_2.out HB.out)))
               (case side4=>exact HC1_2.out)
               rintro e w187 ⟨v594,v597,rfl,ho0,ho1,hb⟩
               refine ⟨_,rfl,?_⟩
               have HO595:=zA (Kd.R_lower (nw (nw (nw (nw (nw (nw (nw (nw (nw (nw ho0 (uR HO_532001.out)) (uR HO_532002.out)) (uR HO_540001.out)) (uR HO_540002.out)) (uR HO_548001.out)) (uR HO_548002.out)) (uR HO_557001.out)) (uR HO_557002.out)) (uR HO588.out)) (uR HO591.out)) (below_size (uH HB.out)))
               have HO598:=zA (Kd.R_lower (nw (nw (nw (nw (nw (nw (nw (nw (nw (nw ho1 (uR HO_532001.out)) (uR HO_532002.out)) (uR HO_540001.out)) (uR HO_540002.out)) (uR HO_548001.out)) (uR HO_548002.out)) (uR HO_557001.out)) (uR HO_557002.out)) (uR HO588.out)) (uR HO591.out)) (below_size (uH HB.out)))
               replace HO_532001:=td2 (uR HO_532001.out) hb ho0 ho1
               replace HO_532002:=td2 (uR HO_532002.out) hb ho0 ho1
               replace HO_540001:=td2 (uR HO_540001.out) hb ho0 ho1
               replace HO_540002:=td2 (uR HO_540002.out) hb ho0 ho1
               replace HO_548001:=td2 (uR HO_548001.out) hb ho0 ho1
               replace HO_548002:=td2 (uR HO_548002.out) hb ho0 ho1
               replace HO_557001:=td2 (uR HO_557001.out) hb ho0 ho1
               replace HO_557002:=td2 (uR HO_557002.out) hb ho0 ho1
               replace HO588:=td2 (uR HO588.out) hb ho0 ho1
               replace HO591:=td2 (uR HO591.out) hb ho0 ho1
               replace BK505:=xB BK505 hb
               replace BK506:=xB BK506 hb
               replace BK531:=xB BK531 hb
               replace BK539:=xB BK539 hb
               replace BK547:=xB BK547 hb
               replace BK556:=xB BK556 hb
               replace HB:=xH HB hb
               (try clear hb);(try clear ho0);(try clear ho1)
               obtain ⟨Ao188,co188,eo188⟩:=Kd.R_slice HO588.out
               (first | subst eo188 | (injection eo188 with f1_ f2_ f3_;have f4_:=f1_.symm;have f5_:=f3_.symm;clear f1_ f2_ f3_;subst f4_;subst f5_))
               obtain ⟨Ao189,co189,eo189⟩:=Kd.R_slice HO591.out
               (first | subst eo189 | (injection eo189 with f1_ f2_ f3_;have f4_:=f1_.symm;have f5_:=f3_.symm;clear f1_ f2_ f3_;subst f4_;subst f5_))
               obtain ⟨Ao190,co190,eo190⟩:=Kd.R_slice HO595.out
               (first | subst eo190 | (injection eo190 with f1_ f2_ f3_;have f4_:=f1_.symm;have f5_:=f3_.symm;clear f1_ f2_ f3_;subst f4_;subst f5_))
               obtain ⟨Ao191,co191,eo191⟩:=Kd.R_slice HO598.out
               (first | subst eo191 | (injection eo191 with f1_ f2_ f3_;have f4_:=f1_.symm;have f5_:=f3_.symm;clear f1_ f2_ f3_;subst f4_;subst f5_))
               refine hK.out _ _ ⟨bcu BK505 0,bcu BK505 1,bcu BK505 2,bcu BK506 0,bcu BK506 1,bcu BK506 2⟩ (fun hHeld=>?_)
               clear hK K
               refine no_ 102 ?_
               refine two_ (i:=5) (j:=9) (Ni:=some 104) (Nj:=some 17) (bl 12 63) (bl 12 543) rfl rfl rfl rfl (two_of HT_.out (by kernel_rfl)) (by decide) (by decide) (fun K hK=>?_) (fun K hK=>?_)
               ·skip
                refine gS Try.func28 #[.agg #[.int .i64 t585,.slice Ao188 t586.length co188,.slice Ao189 t589.length co189],.agg #[.int .i64 t592,.slice Ao190 t593.length co190,.slice Ao191 t596.length co191],.int .i64 a2] ?_
                with_reducible refine (impl_MergeRules.calls kj115 t585 _ _ t586 _ _ t589 t592 _ _ t593 _ _ t596 a2 t599 t600 t603 t606 _ ?side1 ?side2 ?side3 ?side4 ?side5 ?side6 ?side7 ?side8 A174.out).mono ?_
                (case side1=>exact uC ((Kd.R_reads' HO588.out).2.2))
                (case side2=>exact (Kd.R_reads' HO588.out).2.1)
                (case side3=>exact uC ((Kd.R_reads' HO591.out).2.2))
                (case side4=>exact (Kd.R_reads' HO591.out).2.1)
                (case side5=>exact uC ((Kd.R_reads' HO595.out).2.2))
                (case side6=>exact (Kd.R_reads' HO595.out).2.1)
                (case side7=>exact uC ((Kd.R_reads' HO598.out).2.2))
                (case side8=>exact (Kd.R_reads' HO598.out).2.1)
                rintro e w192 ⟨v601,v604,rfl,ho0,ho1,hb⟩
                refine ⟨_,rfl,?_⟩
                have HO602:=zA (Kd.R_lower (nw (nw (nw (nw (nw (nw (nw (nw (nw (nw (nw (nw ho0 (uR HO_532001.out)) (uR HO_532002.out)) (uR HO_540001.out)) (uR HO_540002.out)) (uR HO_548001.out)) (uR HO_548002.out)) (uR HO_557001.out)) (uR HO_557002.out)) (uR HO588.out)) (uR HO591.out)) (uR HO595.out)) (uR HO598.out)) (below_size (uH HB.out)))
                have HO605:=zA (Kd.R_lower (nw (nw (nw (nw (nw (nw (nw (nw (nw (nw (nw (nw ho1 (uR HO_532001.out)) (uR HO_532002.out)) (uR HO_540001.out)) (uR HO_540002.out)) (uR HO_548001.out)) (uR HO_548002.out)) (uR HO_557001.out)) (uR HO_557002.out)) (uR HO588.out)) (uR HO591.out)) (uR HO595.out)) (uR HO598.out)) (below_size (uH HB.out)))
                replace HO_532001:=td2 (uR HO_532001.out) hb ho0 ho1
                replace HO_532002:=td2 (uR HO_532002.out) hb ho0 ho1
                replace HO_540001:=td2 (uR HO_540001.out) hb ho0 ho1
                replace HO_540002:=td2 (uR HO_540002.out) hb ho0 ho1
                replace HO_548001:=td2 (uR HO_548001.out) hb ho0 ho1
                replace HO_548002:=td2 (uR HO_548002.out) hb ho0 ho1
                replace HO_557001:=td2 (uR HO_557001.out) hb ho0 ho1
                replace HO_557002:=td2 (uR HO_557002.out) hb ho0 ho1
                replace HO588:=td2 (uR HO588.out) hb ho0 ho1
                replace HO591:=td2 (uR HO591.out) hb ho0 ho1
                replace HO595:=td2 (uR HO595.out) hb ho0 ho1
                replace HO598:=td2 (uR HO598.out) hb ho0 ho1
                replace BK505:=xB BK505 hb
                replace BK506:=xB BK506 hb
                replace BK531:=xB BK531 hb
                replace BK539:=xB BK539 hb
                replace BK547:=xB BK547 hb
                replace BK556:=xB BK556 hb
                replace HB:=xH HB hb
                (try clear hb);(try clear ho0);(try clear ho1)
                refine hK.out _ _ ⟨bcu BK505 0,bcu BK505 1,bcu BK505 2,bcu BK506 0,bcu BK506 1,bcu BK506 2⟩ (fun hHeld=>?_)
                clear hK K
                refine no_ 104 ?_
                refine pu_ 6 98 (bl 12 127) HT_ ?_
                refine pu_ 7 105 (bl 12 255) HT_ ?_
                refine pu_ 8 106 (bl 12 511) HT_ ?_
                refine on_ 9 (some 17) (bl 12 1023) HT_ (fun K hK=>?_)
                refine box_step ?hg (N:=17) ?hd (cs:=#[.int .i64 0,.slice none 0 0,.slice none 0 0]) (t:=51) ?hr ?_;(case hd=>rfl);(case hg=>rfl);(case hr=>first | (go_simp;done) | (go_simp;rfl))
                intro gb607 hg w193 hbox hb
                replace HO_532001:=xR HO_532001 hb
                replace HO_532002:=xR HO_532002 hb
                replace HO_540001:=xR HO_540001 hb
                replace HO_540002:=xR HO_540002 hb
                replace HO_548001:=xR HO_548001 hb
                replace HO_548002:=xR HO_548002 hb
                replace HO_557001:=xR HO_557001 hb
                replace HO_557002:=xR HO_557002 hb
                replace HO588:=xR HO588 hb
                replace HO591:=xR HO591 hb
                replace HO595:=xR HO595 hb
                replace HO598:=xR HO598 hb
                replace HO602:=xR HO602 hb
                replace HO605:=xR HO605 hb
                have BK607:=zA (hbox)
                have GW607:=gq HB hg
                have GE607:=gq HB hg
                replace HB:=xH HB hb
                have NB505_607:=zA ((by rw [hg];exact neL BK505 : gb505 ≠ gb607))
                have NB607_505:=zA ((by rw [hg];exact neG BK505 : gb607 ≠ gb505))
                replace BK505:=xB BK505 hb
                have NB506_607:=zA ((by rw [hg];exact neL BK506 : gb506 ≠ gb607))
                have NB607_506:=zA ((by rw [hg];exact neG BK506 : gb607 ≠ gb506))
                replace BK506:=xB BK506 hb
                have NB531_607:=zA ((by rw [hg];exact neL BK531 : gb531 ≠ gb607))
                have NB607_531:=zA ((by rw [hg];exact neG BK531 : gb607 ≠ gb531))
                replace BK531:=xB BK531 hb
                have NB539_607:=zA ((by rw [hg];exact neL BK539 : gb539 ≠ gb607))
                have NB607_539:=zA ((by rw [hg];exact neG BK539 : gb607 ≠ gb539))
                replace BK539:=xB BK539 hb
                have NB547_607:=zA ((by rw [hg];exact neL BK547 : gb547 ≠ gb607))
                have NB607_547:=zA ((by rw [hg];exact neG BK547 : gb607 ≠ gb547))
                replace BK547:=xB BK547 hb
                have NB556_607:=zA ((by rw [hg];exact neL BK556 : gb556 ≠ gb607))
                have NB607_556:=zA ((by rw [hg];exact neG BK556 : gb607 ≠ gb556))
                replace BK556:=xB BK556 hb
                have:=geI GE607
                clear hb hbox hg
                refine hK.out _ _ ⟨bcu BK505 0,bcu BK505 1,bcu BK505 2,bcu BK506 0,bcu BK506 1,bcu BK506 2⟩ (fun hHeld=>?_)
                clear hK K
                refine no_ 17 ?_
                exact norm_ (by simp only [putAll,Act.put,ls,lz,ln]) (hCont (.slice Ao188 t586.length co188,.slice Ao189 t589.length co189,.slice Ao190 t593.length co190,.slice Ao191 t596.length co191,v601,v604,gb607) _ ⟨hHeld,(uR (Kd.R_mono HO588.out (fun _ ⟨⟨⟨⟨⟨⟨⟨⟨⟨⟨⟨⟨a,g⟩,h⟩,i⟩,j⟩,l⟩,m⟩,n⟩,o⟩,b⟩,c⟩,d⟩,f⟩=>⟨a,b,c,d,f,g,h,i,j,l,m,n,o⟩))),(uR (Kd.R_mono HO591.out (fun _ ⟨⟨⟨⟨⟨⟨⟨⟨⟨⟨⟨⟨a,g⟩,h⟩,i⟩,j⟩,l⟩,m⟩,n⟩,o⟩,b⟩,c⟩,d⟩,f⟩=>⟨a,b,c,d,f,g,h,i,j,l,m,n,o⟩))),(uR (Kd.R_mono HO595.out (fun _ ⟨⟨⟨⟨⟨⟨⟨⟨⟨⟨⟨⟨c,g⟩,h⟩,i⟩,j⟩,l⟩,m⟩,n⟩,o⟩,a⟩,b⟩,d⟩,f⟩=>⟨a,b,c,d,f,g,h,i,j,l,m,n,o⟩))),(uR (Kd.R_mono HO598.out (fun _ ⟨⟨⟨⟨⟨⟨⟨⟨⟨⟨⟨⟨c,g⟩,h⟩,i⟩,j⟩,l⟩,m⟩,n⟩,o⟩,a⟩,b⟩,d⟩,f⟩=>⟨a,b,c,d,f,g,h,i,j,l,m,n,o⟩))),(uR (Kd.R_mono HO602.out (fun _ ⟨⟨⟨⟨⟨⟨⟨⟨⟨⟨⟨⟨f,g⟩,h⟩,i⟩,j⟩,l⟩,m⟩,n⟩,o⟩,a⟩,b⟩,c⟩,d⟩=>⟨a,b,c,d,f,g,h,i,j,l,m,n,o⟩))),(uR (Kd.R_mono HO605.out (fun _ ⟨⟨⟨⟨⟨⟨⟨⟨⟨⟨⟨⟨f,g⟩,h⟩,i⟩,j⟩,l⟩,m⟩,n⟩,o⟩,a⟩,b⟩,c⟩,d⟩=>⟨a,b,c,d,f,g,h,i,j,l,m,n,o⟩))),(uR (Kd.R_mono HO_532001.out (fun _ ⟨⟨⟨⟨⟨⟨⟨h,i,j,l,m,n,o⟩,a⟩,b⟩,c⟩,d⟩,f⟩,g⟩=>⟨a,b,c,d,f,g,h,i,j,l,m,n,o⟩))),(uR (Kd.R_mono HO_532002.out (fun _ ⟨⟨⟨⟨⟨⟨⟨h,i,j,l,m,n,o⟩,a⟩,b⟩,c⟩,d⟩,f⟩,g⟩=>⟨a,b,c,d,f,g,h,i,j,l,m,n,o⟩))),(uR (Kd.R_mono HO_540001.out (fun _ ⟨⟨⟨⟨⟨⟨⟨h,i,j,l,m,n,o⟩,a⟩,b⟩,c⟩,d⟩,f⟩,g⟩=>⟨a,b,c,d,f,g,h,i,j,l,m,n,o⟩))),(uR (Kd.R_mono HO_540002.out (fun _ ⟨⟨⟨⟨⟨⟨⟨h,i,j,l,m,n,o⟩,a⟩,b⟩,c⟩,d⟩,f⟩,g⟩=>⟨a,b,c,d,f,g,h,i,j,l,m,n,o⟩))),(uR (Kd.R_mono HO_548001.out (fun _ ⟨⟨⟨⟨⟨⟨⟨h,i,j,l,m,n,o⟩,a⟩,b⟩,c⟩,d⟩,f⟩,g⟩=>⟨a,b,c,d,f,g,h,i,j,l,m,n,o⟩))),(uR (Kd.R_mono HO_548002.out (fun _ ⟨⟨⟨⟨⟨⟨⟨h,i,j,l,m,n,o⟩,a⟩,b⟩,c⟩,d⟩,f⟩,g⟩=>⟨a,b,c,d,f,g,h,i,j,l,m,n,o⟩))),(uR (Kd.R_mono HO_557001.out (fun _ ⟨⟨⟨⟨⟨⟨⟨h,i,j,l,m,n,o⟩,a⟩,b⟩,c⟩,d⟩,f⟩,g⟩=>⟨a,b,c,d,f,g,h,i,j,l,m,n,o⟩))),(uR (Kd.R_mono HO_557002.out (fun _ ⟨⟨⟨⟨⟨⟨⟨h,i,j,l,m,n,o⟩,a⟩,b⟩,c⟩,d⟩,f⟩,g⟩=>⟨a,b,c,d,f,g,h,i,j,l,m,n,o⟩))),(uB BK505.out),(uB BK506.out),(uB BK531.out),(uB BK539.out),(uB BK547.out),(uB BK556.out),(uB BK607.out),GW607.out,GE607.out,NB505_607.out,NB607_505.out,NB506_607.out,NB607_506.out,NB531_607.out,NB607_531.out,NB539_607.out,NB607_539.out,NB547_607.out,NB607_547.out,NB556_607.out,NB607_556.out,(uH HB.out)⟩)
               ·skip
                refine box_step ?hg (N:=17) ?hd (cs:=#[.int .i64 0,.slice none 0 0,.slice none 0 0]) (t:=51) ?hr ?_;(case hd=>rfl);(case hg=>rfl);(case hr=>first | (go_simp;done) | (go_simp;rfl))
                intro gb607 hg w188 hbox hb
                replace HO_532001:=xR HO_532001 hb
                replace HO_532002:=xR HO_532002 hb
                replace HO_540001:=xR HO_540001 hb
                replace HO_540002:=xR HO_540002 hb
                replace HO_548001:=xR HO_548001 hb
                replace HO_548002:=xR HO_548002 hb
                replace HO_557001:=xR HO_557001 hb
                replace HO_557002:=xR HO_557002 hb
                replace HO588:=xR HO588 hb
                replace HO591:=xR HO591 hb
                replace HO595:=xR HO595 hb
                replace HO598:=xR HO598 hb
                have BK607:=zA (hbox)
                have GW607:=gq HB hg
                have GE607:=gq HB hg
                replace HB:=xH HB hb
                have NB505_607:=zA ((by rw [hg];exact neL BK505 : gb505 ≠ gb607))
                have NB607_505:=zA ((by rw [hg];exact neG BK505 : gb607 ≠ gb505))
                replace BK505:=xB BK505 hb
                have NB506_607:=zA ((by rw [hg];exact neL BK506 : gb506 ≠ gb607))
                have NB607_506:=zA ((by rw [hg];exact neG BK506 : gb607 ≠ gb506))
                replace BK506:=xB BK506 hb
                have NB531_607:=zA ((by rw [hg];exact neL BK531 : gb531 ≠ gb607))
                have NB607_531:=zA ((by rw [hg];exact neG BK531 : gb607 ≠ gb531))
                replace BK531:=xB BK531 hb
                have NB539_607:=zA ((by rw [hg];exact neL BK539 : gb539 ≠ gb607))
                have NB607_539:=zA ((by rw [hg];exact neG BK539 : gb607 ≠ gb539))
                replace BK539:=xB BK539 hb
                have NB547_607:=zA ((by rw [hg];exact neL BK547 : gb547 ≠ gb607))
                have NB607_547:=zA ((by rw [hg];exact neG BK547 : gb607 ≠ gb547))
                replace BK547:=xB BK547 hb
                have NB556_607:=zA ((by rw [hg];exact neL BK556 : gb556 ≠ gb607))
                have NB607_556:=zA ((by rw [hg];exact neG BK556 : gb607 ≠ gb556))
                replace BK556:=xB BK556 hb
                have:=geI GE607
                clear hb hbox hg
                obtain ⟨Ao189,co189,eo189⟩:=Kd.R_slice HO588.out
                (first | subst eo189 | (injection eo189 with f1_ f2_ f3_;have f4_:=f1_.symm;have f5_:=f3_.symm;clear f1_ f2_ f3_;subst f4_;subst f5_))
                obtain ⟨Ao190,co190,eo190⟩:=Kd.R_slice HO591.out
                (first | subst eo190 | (injection eo190 with f1_ f2_ f3_;have f4_:=f1_.symm;have f5_:=f3_.symm;clear f1_ f2_ f3_;subst f4_;subst f5_))
                obtain ⟨Ao191,co191,eo191⟩:=Kd.R_slice HO595.out
                (first | subst eo191 | (injection eo191 with f1_ f2_ f3_;have f4_:=f1_.symm;have f5_:=f3_.symm;clear f1_ f2_ f3_;subst f4_;subst f5_))
                obtain ⟨Ao192,co192,eo192⟩:=Kd.R_slice HO598.out
                (first | subst eo192 | (injection eo192 with f1_ f2_ f3_;have f4_:=f1_.symm;have f5_:=f3_.symm;clear f1_ f2_ f3_;subst f4_;subst f5_))
                refine hK.out _ _ ⟨bcu BK505 0,bcu BK505 1,bcu BK505 2,bcu BK506 0,bcu BK506 1,bcu BK506 2⟩ (fun hHeld=>?_)
                clear hK K
                refine no_ 17 ?_
                refine on_ 5 (some 104) (bl 12 575) HT_ (fun K hK=>?_)
                refine gS Try.func28 #[.agg #[.int .i64 t585,.slice Ao189 t586.length co189,.slice Ao190 t589.length co190],.agg #[.int .i64 t592,.slice Ao191 t593.length co191,.slice Ao192 t596.length co192],.int .i64 a2] ?_
                with_reducible refine (impl_MergeRules.calls kj115 t585 _ _ t586 _ _ t589 t592 _ _ t593 _ _ t596 a2 t599 t600 t603 t606 _ ?side1 ?side2 ?side3 ?side4 ?side5 ?side6 ?side7 ?side8 A174.out).mono ?_
                (case side1=>exact uC ((Kd.R_reads' HO588.out).2.2))
                (case side2=>exact (Kd.R_reads' HO588.out).2.1)
                (case side3=>exact uC ((Kd.R_reads' HO591.out).2.2))
                (case side4=>exact (Kd.R_reads' HO591.out).2.1)
                (case side5=>exact uC ((Kd.R_reads' HO595.out).2.2))
                (case side6=>exact (Kd.R_reads' HO595.out).2.1)
                (case side7=>exact uC ((Kd.R_reads' HO598.out).2.2))
                (case side8=>exact (Kd.R_reads' HO598.out).2.1)
                rintro e w193 ⟨v601,v604,rfl,ho0,ho1,hb⟩
                refine ⟨_,rfl,?_⟩
                have HO602:=zA (Kd.R_lower (nw (nw (nw (nw (nw (nw (nw (nw (nw (nw (nw (nw ho0 (uR HO_532001.out)) (uR HO_532002.out)) (uR HO_540001.out)) (uR HO_540002.out)) (uR HO_548001.out)) (uR HO_548002.out)) (uR HO_557001.out)) (uR HO_557002.out)) (uR HO588.out)) (uR HO591.out)) (uR HO595.out)) (uR HO598.out)) (below_size (uH HB.out)))
                have HO605:=zA (Kd.R_lower (nw (nw (nw (nw (nw (nw (nw (nw (nw (nw (nw (nw ho1 (uR HO_532001.out)) (uR HO_532002.out)) (uR HO_540001.out)) (uR HO_540002.out)) (uR HO_548001.out)) (uR HO_548002.out)) (uR HO_557001.out)) (uR HO_557002.out)) (uR HO588.out)) (uR HO591.out)) (uR HO595.out)) (uR HO598.out)) (below_size (uH HB.out)))
                replace HO_532001:=td2 (uR HO_532001.out) hb ho0 ho1
                replace HO_532002:=td2 (uR HO_532002.out) hb ho0 ho1
                replace HO_540001:=td2 (uR HO_540001.out) hb ho0 ho1
                replace HO_540002:=td2 (uR HO_540002.out) hb ho0 ho1
                replace HO_548001:=td2 (uR HO_548001.out) hb ho0 ho1
                replace HO_548002:=td2 (uR HO_548002.out) hb ho0 ho1
                replace HO_557001:=td2 (uR HO_557001.out) hb ho0 ho1
                replace HO_557002:=td2 (uR HO_557002.out) hb ho0 ho1
                replace HO588:=td2 (uR HO588.out) hb ho0 ho1
                replace HO591:=td2 (uR HO591.out) hb ho0 ho1
                replace HO595:=td2 (uR HO595.out) hb ho0 ho1
                replace HO598:=td2 (uR HO598.out) hb ho0 ho1
                replace BK505:=xB BK505 hb
                replace BK506:=xB BK506 hb
                replace BK531:=xB BK531 hb
                replace BK539:=xB BK539 hb
                replace BK547:=xB BK547 hb
                replace BK556:=xB BK556 hb
                replace BK607:=xB BK607 hb
                replace HB:=xH HB hb
                (try clear hb);(try clear ho0);(try clear ho1)
                refine hK.out _ _ ⟨bcu BK505 0,bcu BK505 1,bcu BK505 2,bcu BK506 0,bcu BK506 1,bcu BK506 2⟩ (fun hHeld=>?_)
                clear hK K
                refine no_ 104 ?_
                refine pu_ 6 98 (bl 12 639) HT_ ?_
                refine pu_ 7 105 (bl 12 767) HT_ ?_
                refine pu_ 8 106 (bl 12 1023) HT_ ?_
                exact norm_ (by simp only [putAll,Act.put,ls,lz,ln]) (hCont (.slice Ao189 t586.length co189,.slice Ao190 t589.length co190,.slice Ao191 t593.length co191,.slice Ao192 t596.length co192,v601,v604,gb607) _ ⟨hHeld,(uR (Kd.R_mono HO588.out (fun _ ⟨⟨⟨⟨⟨⟨⟨⟨⟨⟨⟨⟨a,g⟩,h⟩,i⟩,j⟩,l⟩,m⟩,n⟩,o⟩,b⟩,c⟩,d⟩,f⟩=>⟨a,b,c,d,f,g,h,i,j,l,m,n,o⟩))),(uR (Kd.R_mono HO591.out (fun _ ⟨⟨⟨⟨⟨⟨⟨⟨⟨⟨⟨⟨a,g⟩,h⟩,i⟩,j⟩,l⟩,m⟩,n⟩,o⟩,b⟩,c⟩,d⟩,f⟩=>⟨a,b,c,d,f,g,h,i,j,l,m,n,o⟩))),(uR (Kd.R_mono HO595.out (fun _ ⟨⟨⟨⟨⟨⟨⟨⟨⟨⟨⟨⟨c,g⟩,h⟩,i⟩,j⟩,l⟩,m⟩,n⟩,o⟩,a⟩,b⟩,d⟩,f⟩=>⟨a,b,c,d,f,g,h,i,j,l,m,n,o⟩))),(uR (Kd.R_mono HO598.out (fun _ ⟨⟨⟨⟨⟨⟨⟨⟨⟨⟨⟨⟨c,g⟩,h⟩,i⟩,j⟩,l⟩,m⟩,n⟩,o⟩,a⟩,b⟩,d⟩,f⟩=>⟨a,b,c,d,f,g,h,i,j,l,m,n,o⟩))),(uR (Kd.R_mono HO602.out (fun _ ⟨⟨⟨⟨⟨⟨⟨⟨⟨⟨⟨⟨f,g⟩,h⟩,i⟩,j⟩,l⟩,m⟩,n⟩,o⟩,a⟩,b⟩,c⟩,d⟩=>⟨a,b,c,d,f,g,h,i,j,l,m,n,o⟩))),(uR (Kd.R_mono HO605.out (fun _ ⟨⟨⟨⟨⟨⟨⟨⟨⟨⟨⟨⟨f,g⟩,h⟩,i⟩,j⟩,l⟩,m⟩,n⟩,o⟩,a⟩,b⟩,c⟩,d⟩=>⟨a,b,c,d,f,g,h,i,j,l,m,n,o⟩))),(uR (Kd.R_mono HO_532001.out (fun _ ⟨⟨⟨⟨⟨⟨⟨h,i,j,l,m,n,o⟩,a⟩,b⟩,c⟩,d⟩,f⟩,g⟩=>⟨a,b,c,d,f,g,h,i,j,l,m,n,o⟩))),(uR (Kd.R_mono HO_532002.out (fun _ ⟨⟨⟨⟨⟨⟨⟨h,i,j,l,m,n,o⟩,a⟩,b⟩,c⟩,d⟩,f⟩,g⟩=>⟨a,b,c,d,f,g,h,i,j,l,m,n,o⟩))),(uR (Kd.R_mono HO_540001.out (fun _ ⟨⟨⟨⟨⟨⟨⟨h,i,j,l,m,n,o⟩,a⟩,b⟩,c⟩,d⟩,f⟩,g⟩=>⟨a,b,c,d,f,g,h,i,j,l,m,n,o⟩))),(uR (Kd.R_mono HO_540002.out (fun _ ⟨⟨⟨⟨⟨⟨⟨h,i,j,l,m,n,o⟩,a⟩,b⟩,c⟩,d⟩,f⟩,g⟩=>⟨a,b,c,d,f,g,h,i,j,l,m,n,o⟩))),(uR (Kd.R_mono HO_548001.out (fun _ ⟨⟨⟨⟨⟨⟨⟨h,i,j,l,m,n,o⟩,a⟩,b⟩,c⟩,d⟩,f⟩,g⟩=>⟨a,b,c,d,f,g,h,i,j,l,m,n,o⟩))),(uR (Kd.R_mono HO_548002.out (fun _ ⟨⟨⟨⟨⟨⟨⟨h,i,j,l,m,n,o⟩,a⟩,b⟩,c⟩,d⟩,f⟩,g⟩=>⟨a,b,c,d,f,g,h,i,j,l,m,n,o⟩))),(uR (Kd.R_mono HO_557001.out (fun _ ⟨⟨⟨⟨⟨⟨⟨h,i,j,l,m,n,o⟩,a⟩,b⟩,c⟩,d⟩,f⟩,g⟩=>⟨a,b,c,d,f,g,h,i,j,l,m,n,o⟩))),(uR (Kd.R_mono HO_557002.out (fun _ ⟨⟨⟨⟨⟨⟨⟨h,i,j,l,m,n,o⟩,a⟩,b⟩,c⟩,d⟩,f⟩,g⟩=>⟨a,b,c,d,f,g,h,i,j,l,m,n,o⟩))),(uB BK505.out),(uB BK506.out),(uB BK531.out),(uB BK539.out),(uB BK547.out),(uB BK556.out),(uB BK607.out),GW607.out,GE607.out,NB505_607.out,NB607_505.out,NB506_607.out,NB607_506.out,NB531_607.out,NB607_531.out,NB539_607.out,NB607_539.out,NB547_607.out,NB607_547.out,NB556_607.out,NB607_556.out,(uH HB.out)⟩)
              ·skip
               refine box_step ?hg (N:=17) ?hd (cs:=#[.int .i64 0,.slice none 0 0,.slice none 0 0]) (t:=51) ?hr ?_;(case hd=>rfl);(case hg=>rfl);(case hr=>first | (go_simp;done) | (go_simp;rfl))
               intro gb607 hg w187 hbox hb
               replace HO_532001:=xR HO_532001 hb
               replace HO_532002:=xR HO_532002 hb
               replace HO_540001:=xR HO_540001 hb
               replace HO_540002:=xR HO_540002 hb
               replace HO_548001:=xR HO_548001 hb
               replace HO_548002:=xR HO_548002 hb
               replace HO_557001:=xR HO_557001 hb
               replace HO_557002:=xR HO_557002 hb
               replace HO588:=xR HO588 hb
               replace HO591:=xR HO591 hb
               have BK607:=zA (hbox)
               have GW607:=gq HB hg
               have GE607:=gq HB hg
               replace HB:=xH HB hb
               have NB505_607:=zA ((by rw [hg];exact neL BK505 : gb505 ≠ gb607))
               have NB607_505:=zA ((by rw [hg];exact neG BK505 : gb607 ≠ gb505))
               replace BK505:=xB BK505 hb
               have NB506_607:=zA ((by rw [hg];exact neL BK506 : gb506 ≠ gb607))
               have NB607_506:=zA ((by rw [hg];exact neG BK506 : gb607 ≠ gb506))
               replace BK506:=xB BK506 hb
               have NB531_607:=zA ((by rw [hg];exact neL BK531 : gb531 ≠ gb607))
               have NB607_531:=zA ((by rw [hg];exact neG BK531 : gb607 ≠ gb531))
               replace BK531:=xB BK531 hb
               have NB539_607:=zA ((by rw [hg];exact neL BK539 : gb539 ≠ gb607))
               have NB607_539:=zA ((by rw [hg];exact neG BK539 : gb607 ≠ gb539))
               replace BK539:=xB BK539 hb
               have NB547_607:=zA ((by rw [hg];exact neL BK547 : gb547 ≠ gb607))
               have NB607_547:=zA ((by rw [hg];exact neG BK547 : gb607 ≠ gb547))
               replace BK547:=xB BK547 hb
               have NB556_607:=zA ((by rw [hg];exact neL BK556 : gb556 ≠ gb607))
               have NB607_556:=zA ((by rw [hg];exact neG BK556 : gb607 ≠ gb556))
               replace BK556:=xB BK556 hb
               have:=geI GE607
               clear hb hbox hg
               refine hK.out _ _ ⟨bcu BK505 0,bcu BK505 1,bcu BK505 2,bcu BK506 0,bcu BK506 1,bcu BK506 2⟩ (fun hHeld=>?_)
               clear hK K
               refine no_ 17 ?_
               refine on_ 3 (some 102) (bl 12 543) HT_ (fun K hK=>?_)
               refine gS Try.func27 #[.agg #[.int .i64 a1_0,.slice A1_1 l1_1.length c1_1,.slice A1_2 l1_2.length c1_2]] ?_
               with_reducible refine (laws_toRule.calls kj115 a1_0 _ _ l1_1 _ _ l1_2 t592 t593 t596 _ ?side1 ?side2 ?side3 ?side4 A173.out).mono ?_
               (case side1=>exact uC ((Kd.C_below HR1_1.out HB.out)))
               (case side2=>exact HC1_1.out)
               (case side3=>exact uC ((Kd.C_below HR1_2.out HB.out)))
               (case side4=>exact HC1_2.out)
               rintro e w188 ⟨v594,v597,rfl,ho0,ho1,hb⟩
               refine ⟨_,rfl,?_⟩
               have HO595:=zA (Kd.R_lower (nw (nw (nw (nw (nw (nw (nw (nw (nw (nw ho0 (uR HO_532001.out)) (uR HO_532002.out)) (uR HO_540001.out)) (uR HO_540002.out)) (uR HO_548001.out)) (uR HO_548002.out)) (uR HO_557001.out)) (uR HO_557002.out)) (uR HO588.out)) (uR HO591.out)) (below_size (uH HB.out)))
               have HO598:=zA (Kd.R_lower (nw (nw (nw (nw (nw (nw (nw (nw (nw (nw ho1 (uR HO_532001.out)) (uR HO_532002.out)) (uR HO_540001.out)) (uR HO_540002.out)) (uR HO_548001.out)) (uR HO_548002.out)) (uR HO_557001.out)) (uR HO_557002.out)) (uR HO588.out)) (uR HO591.out)) (below_size (uH HB.out)))
               replace HO_532001:=td2 (uR HO_532001.out) hb ho0 ho1
               replace HO_532002:=td2 (uR HO_532002.out) hb ho0 ho1
               replace HO_540001:=td2 (uR HO_540001.out) hb ho0 ho1
               replace HO_540002:=td2 (uR HO_540002.out) hb ho0 ho1
               replace HO_548001:=td2 (uR HO_548001.out) hb ho0 ho1
               replace HO_548002:=td2 (uR HO_548002.out) hb ho0 ho1
               replace HO_557001:=td2 (uR HO_557001.out) hb ho0 ho1
               replace HO_557002:=td2 (uR HO_557002.out) hb ho0 ho1
               replace HO588:=td2 (uR HO588.out) hb ho0 ho1
               replace HO591:=td2 (uR HO591.out) hb ho0 ho1
               replace BK505:=xB BK505 hb
               replace BK506:=xB BK506 hb
               replace BK531:=xB BK531 hb
               replace BK539:=xB BK539 hb
               replace BK547:=xB BK547 hb
               replace BK556:=xB BK556 hb
               replace BK607:=xB BK607 hb
               replace HB:=xH HB hb
               (try clear hb);(try clear ho0);(try clear ho1)
               obtain ⟨Ao189,co189,eo189⟩:=Kd.R_slice HO588.out
               (first | subst eo189 | (injection eo189 with f1_ f2_ f3_;have f4_:=f1_.symm;have f5_:=f3_.symm;clear f1_ f2_ f3_;subst f4_;subst f5_))
               obtain ⟨Ao190,co190,eo190⟩:=Kd.R_slice HO591.out
               (first | subst eo190 | (injection eo190 with f1_ f2_ f3_;have f4_:=f1_.symm;have f5_:=f3_.symm;clear f1_ f2_ f3_;subst f4_;subst f5_))
               obtain ⟨Ao191,co191,eo191⟩:=Kd.R_slice HO595.out
               (first | subst eo191 | (injection eo191 with f1_ f2_ f3_;have f4_:=f1_.symm;have f5_:=f3_.symm;clear f1_ f2_ f3_;subst f4_;subst f5_))
               obtain ⟨Ao192,co192,eo192⟩:=Kd.R_slice HO598.out
               (first | subst eo192 | (injection eo192 with f1_ f2_ f3_;have f4_:=f1_.symm;have f5_:=f3_.symm;clear f1_ f2_ f3_;subst f4_;subst f5_))
               refine hK.out _ _ ⟨bcu BK505 0,bcu BK505 1,bcu BK505 2,bcu BK506 0,bcu BK506 1,bcu BK506 2⟩ (fun hHeld=>?_)
               clear hK K
               refine no_ 102 ?_
               refine on_ 5 (some 104) (bl 12 575) HT_ (fun K hK=>?_)
               refine gS Try.func28 #[.agg #[.int .i64 t585,.slice Ao189 t586.length co189,.slice Ao190 t589.length co190],.agg #[.int .i64 t592,.slice Ao191 t593.length co191,.slice Ao192 t596.length co192],.int .i64 a2] ?_
               with_reducible refine (impl_MergeRules.calls kj115 t585 _ _ t586 _ _ t589 t592 _ _ t593 _ _ t596 a2 t599 t600 t603 t606 _ ?side1 ?side2 ?side3 ?side4 ?side5 ?side6 ?side7 ?side8 A174.out).mono ?_
               (case side1=>exact uC ((Kd.R_reads' HO588.out).2.2))
               (case side2=>exact (Kd.R_reads' HO588.out).2.1)
               (case side3=>exact uC ((Kd.R_reads' HO591.out).2.2))
               (case side4=>exact (Kd.R_reads' HO591.out).2.1)
               (case side5=>exact uC ((Kd.R_reads' HO595.out).2.2))
               (case side6=>exact (Kd.R_reads' HO595.out).2.1)
               (case side7=>exact uC ((Kd.R_reads' HO598.out).2.2))
               (case side8=>exact (Kd.R_reads' HO598.out).2.1)
               rintro e w193 ⟨v601,v604,rfl,ho0,ho1,hb⟩
               refine ⟨_,rfl,?_⟩
               have HO602:=zA (Kd.R_lower (nw (nw (nw (nw (nw (nw (nw (nw (nw (nw (nw (nw ho0 (uR HO_532001.out)) (uR HO_532002.out)) (uR HO_540001.out)) (uR HO_540002.out)) (uR HO_548001.out)) (uR HO_548002.out)) (uR HO_557001.out)) (uR HO_557002.out)) (uR HO588.out)) (uR HO591.out)) (uR HO595.out)) (uR HO598.out)) (below_size (uH HB.out)))
               have HO605:=zA (Kd.R_lower (nw (nw (nw (nw (nw (nw (nw (nw (nw (nw (nw (nw ho1 (uR HO_532001.out)) (uR HO_532002.out)) (uR HO_540001.out)) (uR HO_540002.out)) (uR HO_548001.out)) (uR HO_548002.out)) (uR HO_557001.out)) (uR HO_557002.out)) (uR HO588.out)) (uR HO591.out)) (uR HO595.out)) (uR HO598.out)) (below_size (uH HB.out)))
               replace HO_532001:=td2 (uR HO_532001.out) hb ho0 ho1
               replace HO_532002:=td2 (uR HO_532002.out) hb ho0 ho1
               replace HO_540001:=td2 (uR HO_540001.out) hb ho0 ho1
               replace HO_540002:=td2 (uR HO_540002.out) hb ho0 ho1
               replace HO_548001:=td2 (uR HO_548001.out) hb ho0 ho1
               replace HO_548002:=td2 (uR HO_548002.out) hb ho0 ho1
               replace HO_557001:=td2 (uR HO_557001.out) hb ho0 ho1
               replace HO_557002:=td2 (uR HO_557002.out) hb ho0 ho1
               replace HO588:=td2 (uR HO588.out) hb ho0 ho1
               replace HO591:=td2 (uR HO591.out) hb ho0 ho1
               replace HO595:=td2 (uR HO595.out) hb ho0 ho1
               replace HO598:=td2 (uR HO598.out) hb ho0 ho1
               replace BK505:=xB BK505 hb
               replace BK506:=xB BK506 hb
               replace BK531:=xB BK531 hb
               replace BK539:=xB BK539 hb
               replace BK547:=xB BK547 hb
               replace BK556:=xB BK556 hb
               replace BK607:=xB BK607 hb
               replace HB:=xH HB hb
               (try clear hb);(try clear ho0);(try clear ho1)
               refine hK.out _ _ ⟨bcu BK505 0,bcu BK505 1,bcu BK505 2,bcu BK506 0,bcu BK506 1,bcu BK506 2⟩ (fun hHeld=>?_)
               clear hK K
               refine no_ 104 ?_
               refine pu_ 6 98 (bl 12 639) HT_ ?_
               refine pu_ 7 105 (bl 12 767) HT_ ?_
               refine pu_ 8 106 (bl 12 1023) HT_ ?_
               exact norm_ (by simp only [putAll,Act.put,ls,lz,ln]) (hCont (.slice Ao189 t586.length co189,.slice Ao190 t589.length co190,.slice Ao191 t593.length co191,.slice Ao192 t596.length co192,v601,v604,gb607) _ ⟨hHeld,(uR (Kd.R_mono HO588.out (fun _ ⟨⟨⟨⟨⟨⟨⟨⟨⟨⟨⟨⟨a,g⟩,h⟩,i⟩,j⟩,l⟩,m⟩,n⟩,o⟩,b⟩,c⟩,d⟩,f⟩=>⟨a,b,c,d,f,g,h,i,j,l,m,n,o⟩))),(uR (Kd.R_mono HO591.out (fun _ ⟨⟨⟨⟨⟨⟨⟨⟨⟨⟨⟨⟨a,g⟩,h⟩,i⟩,j⟩,l⟩,m⟩,n⟩,o⟩,b⟩,c⟩,d⟩,f⟩=>⟨a,b,c,d,f,g,h,i,j,l,m,n,o⟩))),(uR (Kd.R_mono HO595.out (fun _ ⟨⟨⟨⟨⟨⟨⟨⟨⟨⟨⟨⟨c,g⟩,h⟩,i⟩,j⟩,l⟩,m⟩,n⟩,o⟩,a⟩,b⟩,d⟩,f⟩=>⟨a,b,c,d,f,g,h,i,j,l,m,n,o⟩))),(uR (Kd.R_mono HO598.out (fun _ ⟨⟨⟨⟨⟨⟨⟨⟨⟨⟨⟨⟨c,g⟩,h⟩,i⟩,j⟩,l⟩,m⟩,n⟩,o⟩,a⟩,b⟩,d⟩,f⟩=>⟨a,b,c,d,f,g,h,i,j,l,m,n,o⟩))),(uR (Kd.R_mono HO602.out (fun _ ⟨⟨⟨⟨⟨⟨⟨⟨⟨⟨⟨⟨f,g⟩,h⟩,i⟩,j⟩,l⟩,m⟩,n⟩,o⟩,a⟩,b⟩,c⟩,d⟩=>⟨a,b,c,d,f,g,h,i,j,l,m,n,o⟩))),(uR (Kd.R_mono HO605.out (fun _ ⟨⟨⟨⟨⟨⟨⟨⟨⟨⟨⟨⟨f,g⟩,h⟩,i⟩,j⟩,l⟩,m⟩,n⟩,o⟩,a⟩,b⟩,c⟩,d⟩=>⟨a,b,c,d,f,g,h,i,j,l,m,n,o⟩))),(uR (Kd.R_mono HO_532001.out (fun _ ⟨⟨⟨⟨⟨⟨⟨h,i,j,l,m,n,o⟩,a⟩,b⟩,c⟩,d⟩,f⟩,g⟩=>⟨a,b,c,d,f,g,h,i,j,l,m,n,o⟩))),(uR (Kd.R_mono HO_532002.out (fun _ ⟨⟨⟨⟨⟨⟨⟨h,i,j,l,m,n,o⟩,a⟩,b⟩,c⟩,d⟩,f⟩,g⟩=>⟨a,b,c,d,f,g,h,i,j,l,m,n,o⟩))),(uR (Kd.R_mono HO_540001.out (fun _ ⟨⟨⟨⟨⟨⟨⟨h,i,j,l,m,n,o⟩,a⟩,b⟩,c⟩,d⟩,f⟩,g⟩=>⟨a,b,c,d,f,g,h,i,j,l,m,n,o⟩))),(uR (Kd.R_mono HO_540002.out (fun _ ⟨⟨⟨⟨⟨⟨⟨h,i,j,l,m,n,o⟩,a⟩,b⟩,c⟩,d⟩,f⟩,g⟩=>⟨a,b,c,d,f,g,h,i,j,l,m,n,o⟩))),(uR (Kd.R_mono HO_548001.out (fun _ ⟨⟨⟨⟨⟨⟨⟨h,i,j,l,m,n,o⟩,a⟩,b⟩,c⟩,d⟩,f⟩,g⟩=>⟨a,b,c,d,f,g,h,i,j,l,m,n,o⟩))),(uR (Kd.R_mono HO_548002.out (fun _ ⟨⟨⟨⟨⟨⟨⟨h,i,j,l,m,n,o⟩,a⟩,b⟩,c⟩,d⟩,f⟩,g⟩=>⟨a,b,c,d,f,g,h,i,j,l,m,n,o⟩))),(uR (Kd.R_mono HO_557001.out (fun _ ⟨⟨⟨⟨⟨⟨⟨h,i,j,l,m,n,o⟩,a⟩,b⟩,c⟩,d⟩,f⟩,g⟩=>⟨a,b,c,d,f,g,h,i,j,l,m,n,o⟩))),(uR (Kd.R_mono HO_557002.out (fun _ ⟨⟨⟨⟨⟨⟨⟨h,i,j,l,m,n,o⟩,a⟩,b⟩,c⟩,d⟩,f⟩,g⟩=>⟨a,b,c,d,f,g,h,i,j,l,m,n,o⟩))),(uB BK505.out),(uB BK506.out),(uB BK531.out),(uB BK539.out),(uB BK547.out),(uB BK556.out),(uB BK607.out),GW607.out,GE607.out,NB505_607.out,NB607_505.out,NB506_607.out,NB607_506.out,NB531_607.out,NB607_531.out,NB539_607.out,NB607_539.out,NB547_607.out,NB607_547.out,NB556_607.out,NB607_556.out,(uH HB.out)⟩)
             ·skip
              refine box_step ?hg (N:=17) ?hd (cs:=#[.int .i64 0,.slice none 0 0,.slice none 0 0]) (t:=51) ?hr ?_;(case hd=>rfl);(case hg=>rfl);(case hr=>first | (go_simp;done) | (go_simp;rfl))
              intro gb607 hg w186 hbox hb
              replace HO_532001:=xR HO_532001 hb
              replace HO_532002:=xR HO_532002 hb
              replace HO_540001:=xR HO_540001 hb
              replace HO_540002:=xR HO_540002 hb
              replace HO_548001:=xR HO_548001 hb
              replace HO_548002:=xR HO_548002 hb
              replace HO_557001:=xR HO_557001 hb
              replace HO_557002:=xR HO_557002 hb
              have BK607:=zA (hbox)
              have GW607:=gq HB hg
              have GE607:=gq HB hg
              replace HB:=xH HB hb
              have NB505_607:=zA ((by rw [hg];exact neL BK505 : gb505 ≠ gb607))
              have NB607_505:=zA ((by rw [hg];exact neG BK505 : gb607 ≠ gb505))
              replace BK505:=xB BK505 hb
              have NB506_607:=zA ((by rw [hg];exact neL BK506 : gb506 ≠ gb607))
              have NB607_506:=zA ((by rw [hg];exact neG BK506 : gb607 ≠ gb506))
              replace BK506:=xB BK506 hb
              have NB531_607:=zA ((by rw [hg];exact neL BK531 : gb531 ≠ gb607))
              have NB607_531:=zA ((by rw [hg];exact neG BK531 : gb607 ≠ gb531))
              replace BK531:=xB BK531 hb
              have NB539_607:=zA ((by rw [hg];exact neL BK539 : gb539 ≠ gb607))
              have NB607_539:=zA ((by rw [hg];exact neG BK539 : gb607 ≠ gb539))
              replace BK539:=xB BK539 hb
              have NB547_607:=zA ((by rw [hg];exact neL BK547 : gb547 ≠ gb607))
              have NB607_547:=zA ((by rw [hg];exact neG BK547 : gb607 ≠ gb547))
              replace BK547:=xB BK547 hb
              have NB556_607:=zA ((by rw [hg];exact neL BK556 : gb556 ≠ gb607))
              have NB607_556:=zA ((by rw [hg];exact neG BK556 : gb607 ≠ gb556))
              replace BK556:=xB BK556 hb
              have:=geI GE607
              clear hb hbox hg
              refine hK.out _ _ ⟨bcu BK505 0,bcu BK505 1,bcu BK505 2,bcu BK506 0,bcu BK506 1,bcu BK506 2⟩ (fun hHeld=>?_)
              clear hK K
              refine no_ 17 ?_
              refine on_ 1 (some 100) (bl 12 535) HT_ (fun K hK=>?_)
              refine gS Try.func27 #[.agg #[.int .i64 a0_0,.slice A0_1 l0_1.length c0_1,.slice A0_2 l0_2.length c0_2]] ?_
              with_reducible refine (laws_toRule.calls kj115 a0_0 _ _ l0_1 _ _ l0_2 t585 t586 t589 _ ?side1 ?side2 ?side3 ?side4 A172.out).mono ?_
              (case side1=>exact uC ((Kd.C_below HR0_1.out HB.out)))
              (case side2=>exact HC0_1.out)
              (case side3=>exact uC ((Kd.C_below HR0_2.out HB.out)))
              (case side4=>exact HC0_2.out)
              rintro e w187 ⟨v587,v590,rfl,ho0,ho1,hb⟩
              refine ⟨_,rfl,?_⟩
              have HO588:=zA (Kd.R_lower (nw (nw (nw (nw (nw (nw (nw (nw ho0 (uR HO_532001.out)) (uR HO_532002.out)) (uR HO_540001.out)) (uR HO_540002.out)) (uR HO_548001.out)) (uR HO_548002.out)) (uR HO_557001.out)) (uR HO_557002.out)) (below_size (uH HB.out)))
              have HO591:=zA (Kd.R_lower (nw (nw (nw (nw (nw (nw (nw (nw ho1 (uR HO_532001.out)) (uR HO_532002.out)) (uR HO_540001.out)) (uR HO_540002.out)) (uR HO_548001.out)) (uR HO_548002.out)) (uR HO_557001.out)) (uR HO_557002.out)) (below_size (uH HB.out)))
              replace HO_532001:=td2 (uR HO_532001.out) hb ho0 ho1
              replace HO_532002:=td2 (uR HO_532002.out) hb ho0 ho1
              replace HO_540001:=td2 (uR HO_540001.out) hb ho0 ho1
              replace HO_540002:=td2 (uR HO_540002.out) hb ho0 ho1
              replace HO_548001:=td2 (uR HO_548001.out) hb ho0 ho1
              replace HO_548002:=td2 (uR HO_548002.out) hb ho0 ho1
              replace HO_557001:=td2 (uR HO_557001.out) hb ho0 ho1
              replace HO_557002:=td2 (uR HO_557002.out) hb ho0 ho1
              replace BK505:=xB BK505 hb
              replace BK506:=xB BK506 hb
              replace BK531:=xB BK531 hb
              replace BK539:=xB BK539 hb
              replace BK547:=xB BK547 hb
              replace BK556:=xB BK556 hb
              replace BK607:=xB BK607 hb
              replace HB:=xH HB hb
              (try clear hb);(try clear ho0);(try clear ho1)
              refine hK.out _ _ ⟨bcu BK505 0,bcu BK505 1,bcu BK505 2,bcu BK506 0,bcu BK506 1,bcu BK506 2⟩ (fun hHeld=>?_)
              clear hK K
              refine no_ 100 ?_
              refine on_ 3 (some 102) (bl 12 543) HT_ (fun K hK=>?_)
              refine gS Try.func27 #[.agg #[.int .i64 a1_0,.slice A1_1 l1_1.length c1_1,.slice A1_2 l1_2.length c1_2]] ?_
              with_reducible refine (laws_toRule.calls kj115 a1_0 _ _ l1_1 _ _ l1_2 t592 t593 t596 _ ?side1 ?side2 ?side3 ?side4 A173.out).mono ?_
              (case side1=>exact uC ((Kd.C_below HR1_1.out HB.out)))
              (case side2=>exact HC1_1.out)
              (case side3=>exact uC ((Kd.C_below HR1_2.out HB.out)))
              (case side4=>exact HC1_2.out)
              rintro e w188 ⟨v594,v597,rfl,ho0,ho1,hb⟩
              refine ⟨_,rfl,?_⟩
              have HO595:=zA (Kd.R_lower (nw (nw (nw (nw (nw (nw (nw (nw (nw (nw ho0 (uR HO_532001.out)) (uR HO_532002.out)) (uR HO_540001.out)) (uR HO_540002.out)) (uR HO_548001.out)) (uR HO_548002.out)) (uR HO_557001.out)) (uR HO_557002.out)) (uR HO588.out)) (uR HO591.out)) (below_size (uH HB.out)))
              have HO598:=zA (Kd.R_lower (nw (nw (nw (nw (nw (nw (nw (nw (nw (nw ho1 (uR HO_532001.out)) (uR HO_532002.out)) (uR HO_540001.out)) (uR HO_540002.out)) (uR HO_548001.out)) (uR HO_548002.out)) (uR HO_557001.out)) (uR HO_557002.out)) (uR HO588.out)) (uR HO591.out)) (below_size (uH HB.out)))
              replace HO_532001:=td2 (uR HO_532001.out) hb ho0 ho1
              replace HO_532002:=td2 (uR HO_532002.out) hb ho0 ho1
              replace HO_540001:=td2 (uR HO_540001.out) hb ho0 ho1
              replace HO_540002:=td2 (uR HO_540002.out) hb ho0 ho1
              replace HO_548001:=td2 (uR HO_548001.out) hb ho0 ho1
              replace HO_548002:=td2 (uR HO_548002.out) hb ho0 ho1
              replace HO_557001:=td2 (uR HO_557001.out) hb ho0 ho1
              replace HO_557002:=td2 (uR HO_557002.out) hb ho0 ho1
              replace HO588:=td2 (uR HO588.out) hb ho0 ho1
              replace HO591:=td2 (uR HO591.out) hb ho0 ho1
              replace BK505:=xB BK505 hb
              replace BK506:=xB BK506 hb
              replace BK531:=xB BK531 hb
              replace BK539:=xB BK539 hb
              replace BK547:=xB BK547 hb
              replace BK556:=xB BK556 hb
              replace BK607:=xB BK607 hb
              replace HB:=xH HB hb
              (try clear hb);(try clear ho0);(try clear ho1)
              obtain ⟨Ao189,co189,eo189⟩:=Kd.R_slice HO588.out
              (first | subst eo189 | (injection eo189 with f1_ f2_ f3_;have f4_:=f1_.symm;have f5_:=f3_.symm;clear f1_ f2_ f3_;subst f4_;subst f5_))
              obtain ⟨Ao190,co190,eo190⟩:=Kd.R_slice HO591.out
              (first | subst eo190 | (injection eo190 with f1_ f2_ f3_;have f4_:=f1_.symm;have f5_:=f3_.symm;clear f1_ f2_ f3_;subst f4_;subst f5_))
              obtain ⟨Ao191,co191,eo191⟩:=Kd.R_slice HO595.out
              (first | subst eo191 | (injection eo191 with f1_ f2_ f3_;have f4_:=f1_.symm;have f5_:=f3_.symm;clear f1_ f2_ f3_;subst f4_;subst f5_))
              obtain ⟨Ao192,co192,eo192⟩:=Kd.R_slice HO598.out
              (first | subst eo192 | (injection eo192 with f1_ f2_ f3_;have f4_:=f1_.symm;have f5_:=f3_.symm;clear f1_ f2_ f3_;subst f4_;subst f5_))
              refine hK.out _ _ ⟨bcu BK505 0,bcu BK505 1,bcu BK505 2,bcu BK506 0,bcu BK506 1,bcu BK506 2⟩ (fun hHeld=>?_)
              clear hK K
              refine no_ 102 ?_
              refine on_ 5 (some 104) (bl 12 575) HT_ (fun K hK=>?_)
              refine gS Try.func28 #[.agg #[.int .i64 t585,.slice Ao189 t586.length co189,.slice Ao190 t589.length co190],.agg #[.int .i64 t592,.slice Ao191 t593.length co191,.slice Ao192 t596.length co192],.int .i64 a2] ?_
              with_reducible refine (impl_MergeRules.calls kj115 t585 _ _ t586 _ _ t589 t592 _ _ t593 _ _ t596 a2 t599 t600 t603 t606 _ ?side1 ?side2 ?side3 ?side4 ?side5 ?side6 ?side7 ?side8 A174.out).mono ?_
              (case side1=>exact uC ((Kd.R_reads' HO588.out).2.2))
              (case side2=>exact (Kd.R_reads' HO588.out).2.1)
              (case side3=>exact uC ((Kd.R_reads' HO591.out).2.2))
              (case side4=>exact (Kd.R_reads' HO591.out).2.1)
              (case side5=>exact uC ((Kd.R_reads' HO595.out).2.2))
              (case side6=>exact (Kd.R_reads' HO595.out).2.1)
              (case side7=>exact uC ((Kd.R_reads' HO598.out).2.2))
              (case side8=>exact (Kd.R_reads' HO598.out).2.1)
              rintro e w193 ⟨v601,v604,rfl,ho0,ho1,hb⟩
              refine ⟨_,rfl,?_⟩
              have HO602:=zA (Kd.R_lower (nw (nw (nw (nw (nw (nw (nw (nw (nw (nw (nw (nw ho0 (uR HO_532001.out)) (uR HO_532002.out)) (uR HO_540001.out)) (uR HO_540002.out)) (uR HO_548001.out)) (uR HO_548002.out)) (uR HO_557001.out)) (uR HO_557002.out)) (uR HO588.out)) (uR HO591.out)) (uR HO595.out)) (uR HO598.out)) (below_size (uH HB.out)))
              have HO605:=zA (Kd.R_lower (nw (nw (nw (nw (nw (nw (nw (nw (nw (nw (nw (nw ho1 (uR HO_532001.out)) (uR HO_532002.out)) (uR HO_540001.out)) (uR HO_540002.out)) (uR HO_548001.out)) (uR HO_548002.out)) (uR HO_557001.out)) (uR HO_557002.out)) (uR HO588.out)) (uR HO591.out)) (uR HO595.out)) (uR HO598.out)) (below_size (uH HB.out)))
              replace HO_532001:=td2 (uR HO_532001.out) hb ho0 ho1
              replace HO_532002:=td2 (uR HO_532002.out) hb ho0 ho1
              replace HO_540001:=td2 (uR HO_540001.out) hb ho0 ho1
              replace HO_540002:=td2 (uR HO_540002.out) hb ho0 ho1
              replace HO_548001:=td2 (uR HO_548001.out) hb ho0 ho1
              replace HO_548002:=td2 (uR HO_548002.out) hb ho0 ho1
              replace HO_557001:=td2 (uR HO_557001.out) hb ho0 ho1
              replace HO_557002:=td2 (uR HO_557002.out) hb ho0 ho1
              replace HO588:=td2 (uR HO588.out) hb ho0 ho1
              replace HO591:=td2 (uR HO591.out) hb ho0 ho1
              replace HO595:=td2 (uR HO595.out) hb ho0 ho1
              replace HO598:=td2 (uR HO598.out) hb ho0 ho1
              replace BK505:=xB BK505 hb
              replace BK506:=xB BK506 hb
              replace BK531:=xB BK531 hb
              replace BK539:=xB BK539 hb
              replace BK547:=xB BK547 hb
              replace BK556:=xB BK556 hb
              replace BK607:=xB BK607 hb
              replace HB:=xH HB hb
              (try clear hb);(try clear ho0);(try clear ho1)
              refine hK.out _ _ ⟨bcu BK505 0,bcu BK505 1,bcu BK505 2,bcu BK506 0,bcu BK506 1,bcu BK506 2⟩ (fun hHeld=>?_)
              clear hK K
              refine no_ 104 ?_
              refine pu_ 6 98 (bl 12 639) HT_ ?_
              refine pu_ 7 105 (bl 12 767) HT_ ?_
              refine pu_ 8 106 (bl 12 1023) HT_ ?_
              exact norm_ (by simp only [putAll,Act.put,ls,lz,ln]) (hCont (.slice Ao189 t586.length co189,.slice Ao190 t589.length co190,.slice Ao191 t593.length co191,.slice Ao192 t596.length co192,v601,v604,gb607) _ ⟨hHeld,(uR (Kd.R_mono HO588.out (fun _ ⟨⟨⟨⟨⟨⟨⟨⟨⟨⟨⟨⟨a,g⟩,h⟩,i⟩,j⟩,l⟩,m⟩,n⟩,o⟩,b⟩,c⟩,d⟩,f⟩=>⟨a,b,c,d,f,g,h,i,j,l,m,n,o⟩))),(uR (Kd.R_mono HO591.out (fun _ ⟨⟨⟨⟨⟨⟨⟨⟨⟨⟨⟨⟨a,g⟩,h⟩,i⟩,j⟩,l⟩,m⟩,n⟩,o⟩,b⟩,c⟩,d⟩,f⟩=>⟨a,b,c,d,f,g,h,i,j,l,m,n,o⟩))),(uR (Kd.R_mono HO595.out (fun _ ⟨⟨⟨⟨⟨⟨⟨⟨⟨⟨⟨⟨c,g⟩,h⟩,i⟩,j⟩,l⟩,m⟩,n⟩,o⟩,a⟩,b⟩,d⟩,f⟩=>⟨a,b,c,d,f,g,h,i,j,l,m,n,o⟩))),(uR (Kd.R_mono HO598.out (fun _ ⟨⟨⟨⟨⟨⟨⟨⟨⟨⟨⟨⟨c,g⟩,h⟩,i⟩,j⟩,l⟩,m⟩,n⟩,o⟩,a⟩,b⟩,d⟩,f⟩=>⟨a,b,c,d,f,g,h,i,j,l,m,n,o⟩))),(uR (Kd.R_mono HO602.out (fun _ ⟨⟨⟨⟨⟨⟨⟨⟨⟨⟨⟨⟨f,g⟩,h⟩,i⟩,j⟩,l⟩,m⟩,n⟩,o⟩,a⟩,b⟩,c⟩,d⟩=>⟨a,b,c,d,f,g,h,i,j,l,m,n,o⟩))),(uR (Kd.R_mono HO605.out (fun _ ⟨⟨⟨⟨⟨⟨⟨⟨⟨⟨⟨⟨f,g⟩,h⟩,i⟩,j⟩,l⟩,m⟩,n⟩,o⟩,a⟩,b⟩,c⟩,d⟩=>⟨a,b,c,d,f,g,h,i,j,l,m,n,o⟩))),(uR (Kd.R_mono HO_532001.out (fun _ ⟨⟨⟨⟨⟨⟨⟨h,i,j,l,m,n,o⟩,a⟩,b⟩,c⟩,d⟩,f⟩,g⟩=>⟨a,b,c,d,f,g,h,i,j,l,m,n,o⟩))),(uR (Kd.R_mono HO_532002.out (fun _ ⟨⟨⟨⟨⟨⟨⟨h,i,j,l,m,n,o⟩,a⟩,b⟩,c⟩,d⟩,f⟩,g⟩=>⟨a,b,c,d,f,g,h,i,j,l,m,n,o⟩))),(uR (Kd.R_mono HO_540001.out (fun _ ⟨⟨⟨⟨⟨⟨⟨h,i,j,l,m,n,o⟩,a⟩,b⟩,c⟩,d⟩,f⟩,g⟩=>⟨a,b,c,d,f,g,h,i,j,l,m,n,o⟩))),(uR (Kd.R_mono HO_540002.out (fun _ ⟨⟨⟨⟨⟨⟨⟨h,i,j,l,m,n,o⟩,a⟩,b⟩,c⟩,d⟩,f⟩,g⟩=>⟨a,b,c,d,f,g,h,i,j,l,m,n,o⟩))),(uR (Kd.R_mono HO_548001.out (fun _ ⟨⟨⟨⟨⟨⟨⟨h,i,j,l,m,n,o⟩,a⟩,b⟩,c⟩,d⟩,f⟩,g⟩=>⟨a,b,c,d,f,g,h,i,j,l,m,n,o⟩))),(uR (Kd.R_mono HO_548002.out (fun _ ⟨⟨⟨⟨⟨⟨⟨h,i,j,l,m,n,o⟩,a⟩,b⟩,c⟩,d⟩,f⟩,g⟩=>⟨a,b,c,d,f,g,h,i,j,l,m,n,o⟩))),(uR (Kd.R_mono HO_557001.out (fun _ ⟨⟨⟨⟨⟨⟨⟨h,i,j,l,m,n,o⟩,a⟩,b⟩,c⟩,d⟩,f⟩,g⟩=>⟨a,b,c,d,f,g,h,i,j,l,m,n,o⟩))),(uR (Kd.R_mono HO_557002.out (fun _ ⟨⟨⟨⟨⟨⟨⟨h,i,j,l,m,n,o⟩,a⟩,b⟩,c⟩,d⟩,f⟩,g⟩=>⟨a,b,c,d,f,g,h,i,j,l,m,n,o⟩))),(uB BK505.out),(uB BK506.out),(uB BK531.out),(uB BK539.out),(uB BK547.out),(uB BK556.out),(uB BK607.out),GW607.out,GE607.out,NB505_607.out,NB607_505.out,NB506_607.out,NB607_506.out,NB531_607.out,NB607_531.out,NB539_607.out,NB607_539.out,NB547_607.out,NB607_547.out,NB556_607.out,NB607_556.out,(uH HB.out)⟩)
            rintro ⟨v587,v590,v594,v597,v601,v604,gb607⟩ w194 ⟨hS_,h0_,h1_,h2_,h3_,h4_,h5_,h6_,h7_,h8_,h9_,h10_,h11_,h12_,h13_,h14_,h15_,h16_,h17_,h18_,h19_,h20_,h21_,h22_,h23_,h24_,h25_,h26_,h27_,h28_,h29_,h30_,h31_,h32_,h33_,h34_,h35_⟩
            have n0_ : Aside0 (Kd.R (Kd.int .i64) 2 w194 w.heap.size (fun k_=>ax k_ v590∧ax k_ v594∧ax k_ v597∧ax k_ v601∧ax k_ v604∧ax k_ (.slice Ao45 t524.length co45)∧ax k_ (.slice Ao47 t527.length co47)∧ax k_ (.slice Ao57 t575.length co57)∧ax k_ (.slice Ao58 t576.length co58)∧ax k_ (.slice Ao68 t578.length co68)∧ax k_ (.slice Ao69 t579.length co69)∧ax k_ (.slice Ao79 t549.length co79)∧ax k_ (.slice Ao80 t552.length co80)) v587 t586):=⟨h0_⟩
            have n1_ : Aside0 (Kd.R (Kd.int .i64) 2 w194 w.heap.size (fun k_=>ax k_ v587∧ax k_ v594∧ax k_ v597∧ax k_ v601∧ax k_ v604∧ax k_ (.slice Ao45 t524.length co45)∧ax k_ (.slice Ao47 t527.length co47)∧ax k_ (.slice Ao57 t575.length co57)∧ax k_ (.slice Ao58 t576.length co58)∧ax k_ (.slice Ao68 t578.length co68)∧ax k_ (.slice Ao69 t579.length co69)∧ax k_ (.slice Ao79 t549.length co79)∧ax k_ (.slice Ao80 t552.length co80)) v590 t589):=⟨h1_⟩
            have n2_ : Aside0 (Kd.R (Kd.int .i64) 2 w194 w.heap.size (fun k_=>ax k_ v587∧ax k_ v590∧ax k_ v597∧ax k_ v601∧ax k_ v604∧ax k_ (.slice Ao45 t524.length co45)∧ax k_ (.slice Ao47 t527.length co47)∧ax k_ (.slice Ao57 t575.length co57)∧ax k_ (.slice Ao58 t576.length co58)∧ax k_ (.slice Ao68 t578.length co68)∧ax k_ (.slice Ao69 t579.length co69)∧ax k_ (.slice Ao79 t549.length co79)∧ax k_ (.slice Ao80 t552.length co80)) v594 t593):=⟨h2_⟩
            have n3_ : Aside0 (Kd.R (Kd.int .i64) 2 w194 w.heap.size (fun k_=>ax k_ v587∧ax k_ v590∧ax k_ v594∧ax k_ v601∧ax k_ v604∧ax k_ (.slice Ao45 t524.length co45)∧ax k_ (.slice Ao47 t527.length co47)∧ax k_ (.slice Ao57 t575.length co57)∧ax k_ (.slice Ao58 t576.length co58)∧ax k_ (.slice Ao68 t578.length co68)∧ax k_ (.slice Ao69 t579.length co69)∧ax k_ (.slice Ao79 t549.length co79)∧ax k_ (.slice Ao80 t552.length co80)) v597 t596):=⟨h3_⟩
            have n4_ : Aside0 (Kd.R (Kd.int .i64) 2 w194 w.heap.size (fun k_=>ax k_ v587∧ax k_ v590∧ax k_ v594∧ax k_ v597∧ax k_ v604∧ax k_ (.slice Ao45 t524.length co45)∧ax k_ (.slice Ao47 t527.length co47)∧ax k_ (.slice Ao57 t575.length co57)∧ax k_ (.slice Ao58 t576.length co58)∧ax k_ (.slice Ao68 t578.length co68)∧ax k_ (.slice Ao69 t579.length co69)∧ax k_ (.slice Ao79 t549.length co79)∧ax k_ (.slice Ao80 t552.length co80)) v601 t600):=⟨h4_⟩
            have n5_ : Aside0 (Kd.R (Kd.int .i64) 2 w194 w.heap.size (fun k_=>ax k_ v587∧ax k_ v590∧ax k_ v594∧ax k_ v597∧ax k_ v601∧ax k_ (.slice Ao45 t524.length co45)∧ax k_ (.slice Ao47 t527.length co47)∧ax k_ (.slice Ao57 t575.length co57)∧ax k_ (.slice Ao58 t576.length co58)∧ax k_ (.slice Ao68 t578.length co68)∧ax k_ (.slice Ao69 t579.length co69)∧ax k_ (.slice Ao79 t549.length co79)∧ax k_ (.slice Ao80 t552.length co80)) v604 t603):=⟨h5_⟩
            have n6_ : Aside0 (Kd.R (Kd.int .i64) 2 w194 w.heap.size (fun k_=>ax k_ v587∧ax k_ v590∧ax k_ v594∧ax k_ v597∧ax k_ v601∧ax k_ v604∧ax k_ (.slice Ao47 t527.length co47)∧ax k_ (.slice Ao57 t575.length co57)∧ax k_ (.slice Ao58 t576.length co58)∧ax k_ (.slice Ao68 t578.length co68)∧ax k_ (.slice Ao69 t579.length co69)∧ax k_ (.slice Ao79 t549.length co79)∧ax k_ (.slice Ao80 t552.length co80)) (.slice Ao45 t524.length co45) t524):=⟨h6_⟩
            have n7_ : Aside0 (Kd.R (Kd.int .i64) 2 w194 w.heap.size (fun k_=>ax k_ v587∧ax k_ v590∧ax k_ v594∧ax k_ v597∧ax k_ v601∧ax k_ v604∧ax k_ (.slice Ao45 t524.length co45)∧ax k_ (.slice Ao57 t575.length co57)∧ax k_ (.slice Ao58 t576.length co58)∧ax k_ (.slice Ao68 t578.length co68)∧ax k_ (.slice Ao69 t579.length co69)∧ax k_ (.slice Ao79 t549.length co79)∧ax k_ (.slice Ao80 t552.length co80)) (.slice Ao47 t527.length co47) t527):=⟨h7_⟩
            have n8_ : Aside0 (Kd.R (Kd.int .i64) 2 w194 w.heap.size (fun k_=>ax k_ v587∧ax k_ v590∧ax k_ v594∧ax k_ v597∧ax k_ v601∧ax k_ v604∧ax k_ (.slice Ao45 t524.length co45)∧ax k_ (.slice Ao47 t527.length co47)∧ax k_ (.slice Ao58 t576.length co58)∧ax k_ (.slice Ao68 t578.length co68)∧ax k_ (.slice Ao69 t579.length co69)∧ax k_ (.slice Ao79 t549.length co79)∧ax k_ (.slice Ao80 t552.length co80)) (.slice Ao57 t575.length co57) t575):=⟨h8_⟩
            have n9_ : Aside0 (Kd.R (Kd.int .i64) 2 w194 w.heap.size (fun k_=>ax k_ v587∧ax k_ v590∧ax k_ v594∧ax k_ v597∧ax k_ v601∧ax k_ v604∧ax k_ (.slice Ao45 t524.length co45)∧ax k_ (.slice Ao47 t527.length co47)∧ax k_ (.slice Ao57 t575.length co57)∧ax k_ (.slice Ao68 t578.length co68)∧ax k_ (.slice Ao69 t579.length co69)∧ax k_ (.slice Ao79 t549.length co79)∧ax k_ (.slice Ao80 t552.length co80)) (.slice Ao58 t576.length co58) t576):=⟨h9_⟩
            have n10_ : Aside0 (Kd.R (Kd.int .i64) 2 w194 w.heap.size (fun k_=>ax k_ v587∧ax k_ v590∧ax k_ v594∧ax k_ v597∧ax k_ v601∧ax k_ v604∧ax k_ (.slice Ao45 t524.length co45)∧ax k_ (.slice Ao47 t527.length co47)∧ax k_ (.slice Ao57 t575.length co57)∧ax k_ (.slice Ao58 t576.length co58)∧ax k_ (.slice Ao69 t579.length co69)∧ax k_ (.slice Ao79 t549.length co79)∧ax k_ (.slice Ao80 t552.length co80)) (.slice Ao68 t578.length co68) t578):=⟨h10_⟩
            have n11_ : Aside0 (Kd.R (Kd.int .i64) 2 w194 w.heap.size (fun k_=>ax k_ v587∧ax k_ v590∧ax k_ v594∧ax k_ v597∧ax k_ v601∧ax k_ v604∧ax k_ (.slice Ao45 t524.length co45)∧ax k_ (.slice Ao47 t527.length co47)∧ax k_ (.slice Ao57 t575.length co57)∧ax k_ (.slice Ao58 t576.length co58)∧ax k_ (.slice Ao68 t578.length co68)∧ax k_ (.slice Ao79 t549.length co79)∧ax k_ (.slice Ao80 t552.length co80)) (.slice Ao69 t579.length co69) t579):=⟨h11_⟩
            have n12_ : Aside0 (Kd.R (Kd.int .i64) 2 w194 w.heap.size (fun k_=>ax k_ v587∧ax k_ v590∧ax k_ v594∧ax k_ v597∧ax k_ v601∧ax k_ v604∧ax k_ (.slice Ao45 t524.length co45)∧ax k_ (.slice Ao47 t527.length co47)∧ax k_ (.slice Ao57 t575.length co57)∧ax k_ (.slice Ao58 t576.length co58)∧ax k_ (.slice Ao68 t578.length co68)∧ax k_ (.slice Ao69 t579.length co69)∧ax k_ (.slice Ao80 t552.length co80)) (.slice Ao79 t549.length co79) t582):=⟨h12_⟩
            have n13_ : Aside0 (Kd.R (Kd.int .i64) 2 w194 w.heap.size (fun k_=>ax k_ v587∧ax k_ v590∧ax k_ v594∧ax k_ v597∧ax k_ v601∧ax k_ v604∧ax k_ (.slice Ao45 t524.length co45)∧ax k_ (.slice Ao47 t527.length co47)∧ax k_ (.slice Ao57 t575.length co57)∧ax k_ (.slice Ao58 t576.length co58)∧ax k_ (.slice Ao68 t578.length co68)∧ax k_ (.slice Ao69 t579.length co69)∧ax k_ (.slice Ao79 t549.length co79)) (.slice Ao80 t552.length co80) t583):=⟨h13_⟩
            have n14_ : Aside0 (w194.heap[gb505]? = some (.cells #[.int .i64 a0_0,.slice A0_1 l0_1.length c0_1,.slice A0_2 l0_2.length c0_2] 49 (0,0))):=⟨h14_⟩
            have n15_ : Aside0 (w194.heap[gb506]? = some (.cells #[.int .i64 a1_0,.slice A1_1 l1_1.length c1_1,.slice A1_2 l1_2.length c1_2] 49 (0,0))):=⟨h15_⟩
            have n16_ : Aside0 (w194.heap[gb531]? = some (.cells #[.int .i64 t523,.slice Ao45 t524.length co45,.slice Ao47 t527.length co47] 51 (0,0))):=⟨h16_⟩
            have n17_ : Aside0 (w194.heap[gb539]? = some (.cells #[.int .i64 t532,.slice Ao57 t575.length co57,.slice Ao58 t576.length co58] 51 (0,0))):=⟨h17_⟩
            have n18_ : Aside0 (w194.heap[gb547]? = some (.cells #[.int .i64 t540,.slice Ao68 t578.length co68,.slice Ao69 t579.length co69] 51 (0,0))):=⟨h18_⟩
            have n19_ : Aside0 (w194.heap[gb556]? = some (.cells #[.int .i64 t548,.slice Ao79 t549.length co79,.slice Ao80 t552.length co80] 51 (0,0))):=⟨h19_⟩
            have n20_ : Aside0 (w194.heap[gb607]? = some (.cells #[.int .i64 0,.slice none 0 0,.slice none 0 0] 51 (0,0))):=⟨h20_⟩
            have n21_ : Aside0 (w.heap.size ≤ gb607):=⟨h21_⟩
            have n22_ : Aside0 (w.heap.size ≤ gb607):=⟨h22_⟩
            have n23_ : Aside0 (gb505 ≠ gb607):=⟨h23_⟩
            have n24_ : Aside0 (gb607 ≠ gb505):=⟨h24_⟩
            have n25_ : Aside0 (gb506 ≠ gb607):=⟨h25_⟩
            have n26_ : Aside0 (gb607 ≠ gb506):=⟨h26_⟩
            have n27_ : Aside0 (gb531 ≠ gb607):=⟨h27_⟩
            have n28_ : Aside0 (gb607 ≠ gb531):=⟨h28_⟩
            have n29_ : Aside0 (gb539 ≠ gb607):=⟨h29_⟩
            have n30_ : Aside0 (gb607 ≠ gb539):=⟨h30_⟩
            have n31_ : Aside0 (gb547 ≠ gb607):=⟨h31_⟩
            have n32_ : Aside0 (gb607 ≠ gb547):=⟨h32_⟩
            have n33_ : Aside0 (gb556 ≠ gb607):=⟨h33_⟩
            have n34_ : Aside0 (gb607 ≠ gb556):=⟨h34_⟩
            have n35_ : Aside0 (Below w.heap.size w w194):=⟨h35_⟩
            clear HO_532001 HO_532002 HO_540001 HO_540002 HO_548001 HO_548002 HO_557001 HO_557002 BK505 BK506 BK531 BK539 BK547 BK556 HB
            clear h0_ h1_ h2_ h3_ h4_ h5_ h6_ h7_ h8_ h9_ h10_ h11_ h12_ h13_ h14_ h15_ h16_ h17_ h18_ h19_ h20_ h21_ h22_ h23_ h24_ h25_ h26_ h27_ h28_ h29_ h30_ h31_ h32_ h33_ h34_ h35_
            have HO588:=n0_
            have HO591:=n1_
            have HO595:=n2_
            have HO598:=n3_
            have HO602:=n4_
            have HO605:=n5_
            have HO_532001:=n6_
            have HO_532002:=n7_
            have HO_540001:=n8_
            have HO_540002:=n9_
            have HO_548001:=n10_
            have HO_548002:=n11_
            have HO_557001:=n12_
            have HO_557002:=n13_
            have BK505:=n14_
            have BK506:=n15_
            have BK531:=n16_
            have BK539:=n17_
            have BK547:=n18_
            have BK556:=n19_
            have BK607:=n20_
            have GW607:=n21_
            have GE607:=n22_
            have:=geI GE607
            have NB505_607:=n23_
            have NB607_505:=n24_
            have NB506_607:=n25_
            have NB607_506:=n26_
            have NB531_607:=n27_
            have NB607_531:=n28_
            have NB539_607:=n29_
            have NB607_539:=n30_
            have NB547_607:=n31_
            have NB607_547:=n32_
            have NB556_607:=n33_
            have NB607_556:=n34_
            have HB:=n35_
            clear n0_ n1_ n2_ n3_ n4_ n5_ n6_ n7_ n8_ n9_ n10_ n11_ n12_ n13_ n14_ n15_ n16_ n17_ n18_ n19_ n20_ n21_ n22_ n23_ n24_ n25_ n26_ n27_ n28_ n29_ n30_ n31_ n32_ n33_ n34_ n35_
            have hHeld : w194.cell? ⟨gb505,0,none⟩ = some (.int .i64 a0_0)∧w194.cell? ⟨gb505,1,none⟩ = some (.slice A0_1 l0_1.length c0_1)∧w194.cell? ⟨gb505,2,none⟩ = some (.slice A0_2 l0_2.length c0_2)∧w194.cell? ⟨gb506,0,none⟩ = some (.int .i64 a1_0)∧w194.cell? ⟨gb506,1,none⟩ = some (.slice A1_1 l1_1.length c1_1)∧w194.cell? ⟨gb506,2,none⟩ = some (.slice A1_2 l1_2.length c1_2):=hS_
            obtain ⟨Ao196,co196,eo196⟩:=Kd.R_slice HO602.out
            (first | subst eo196 | (injection eo196 with f1_ f2_ f3_;have f4_:=f1_.symm;have f5_:=f3_.symm;clear f1_ f2_ f3_;subst f4_;subst f5_))
            obtain ⟨Ao198,co198,eo198⟩:=Kd.R_slice HO605.out
            (first | subst eo198 | (injection eo198 with f1_ f2_ f3_;have f4_:=f1_.symm;have f5_:=f3_.symm;clear f1_ f2_ f3_;subst f4_;subst f5_))
            refine norm_ (a':=?_) ?_ ?_
            rotate_left
            ·simp only [putAll,Act.put,ls,lz,ln]
             rfl
            refine on_ 10 (none) (bl 12 2047) HT_ (fun K hK=>?_)
            have hs195 : w194.cell? ⟨gb607,0,none⟩ = some (.int .i64 0):=(blk_cell BK607.out 0).trans rfl
            have hfs195:=bf BK607 0
            have hns195_0:=NB505_607.out;have hns195_1:=NB506_607.out;have hns195_2:=NB531_607.out;have hns195_3:=NB539_607.out;have hns195_4:=NB547_607.out;have hns195_5:=NB556_607.out;have hms195_0:=NB607_505.out;have hms195_1:=NB607_506.out;have hms195_2:=NB607_531.out;have hms195_3:=NB607_539.out;have hms195_4:=NB607_547.out;have hms195_5:=NB607_556.out
            have hs197 : w194.cell? ⟨gb607,1,none⟩ = some (.slice none 0 0):=(blk_cell BK607.out 1).trans rfl
            have hfs197:=bf BK607 1
            have hns197_0:=NB505_607.out;have hns197_1:=NB506_607.out;have hns197_2:=NB531_607.out;have hns197_3:=NB539_607.out;have hns197_4:=NB547_607.out;have hns197_5:=NB556_607.out;have hms197_0:=NB607_505.out;have hms197_1:=NB607_506.out;have hms197_2:=NB607_531.out;have hms197_3:=NB607_539.out;have hms197_4:=NB607_547.out;have hms197_5:=NB607_556.out
            have hs199 : w194.cell? ⟨gb607,2,none⟩ = some (.slice none 0 0):=(blk_cell BK607.out 2).trans rfl
            have hfs199:=bf BK607 2
            have hns199_0:=NB505_607.out;have hns199_1:=NB506_607.out;have hns199_2:=NB531_607.out;have hns199_3:=NB539_607.out;have hns199_4:=NB547_607.out;have hns199_5:=NB556_607.out;have hms199_0:=NB607_505.out;have hms199_1:=NB607_506.out;have hms199_2:=NB607_531.out;have hms199_3:=NB607_539.out;have hms199_4:=NB607_547.out;have hms199_5:=NB607_556.out
            refine skip_ (w1:=?_) (by rfl) rfl ?_ ?_
            rotate_left
            ·go_simp
             rfl
            refine hK.out _ _ ⟨((cell_far (p:=⟨gb607,_,none⟩) NB505_607.out _).trans (((cell_far (p:=⟨gb607,_,none⟩) NB505_607.out _).trans (((cell_far (p:=⟨gb607,_,none⟩) NB505_607.out _).trans (hHeld.1)))))),((cell_far (p:=⟨gb607,_,none⟩) NB505_607.out _).trans (((cell_far (p:=⟨gb607,_,none⟩) NB505_607.out _).trans (((cell_far (p:=⟨gb607,_,none⟩) NB505_607.out _).trans (hHeld.2.1)))))),((cell_far (p:=⟨gb607,_,none⟩) NB505_607.out _).trans (((cell_far (p:=⟨gb607,_,none⟩) NB505_607.out _).trans (((cell_far (p:=⟨gb607,_,none⟩) NB505_607.out _).trans (hHeld.2.2.1)))))),((cell_far (p:=⟨gb607,_,none⟩) NB506_607.out _).trans (((cell_far (p:=⟨gb607,_,none⟩) NB506_607.out _).trans (((cell_far (p:=⟨gb607,_,none⟩) NB506_607.out _).trans (hHeld.2.2.2.1)))))),((cell_far (p:=⟨gb607,_,none⟩) NB506_607.out _).trans (((cell_far (p:=⟨gb607,_,none⟩) NB506_607.out _).trans (((cell_far (p:=⟨gb607,_,none⟩) NB506_607.out _).trans (hHeld.2.2.2.2.1)))))),((cell_far (p:=⟨gb607,_,none⟩) NB506_607.out _).trans (((cell_far (p:=⟨gb607,_,none⟩) NB506_607.out _).trans (((cell_far (p:=⟨gb607,_,none⟩) NB506_607.out _).trans (hHeld.2.2.2.2.2))))))⟩ (fun hHeld=>?_)
            clear hK K
            refine pu_ 11 18 (bl 12 4095) HT_ ?_
            refine done_ (done_of HT_.out (by kernel_rfl)) ?_
            go_upto_region 32 with (fail)
            go_cut [115] (fun v115 wc=>∃ (kq : Nat) (x115_174 : Bool),v115 = .bool x115_174∧Aside0 (laws_FnExactMergeRules.j2 kq t581 x115_174 t548 t582 t583 = some r)∧Aside0 (kq ≤ kj115)∧Aside0 (Kd.R (Kd.int .i64) 2 wc w.heap.size (fun k_=>ax k_ (.slice Ao47 t527.length co47)∧ax k_ (.slice Ao57 t575.length co57)∧ax k_ (.slice Ao58 t576.length co58)∧ax k_ (.slice Ao68 t578.length co68)∧ax k_ (.slice Ao69 t579.length co69)∧ax k_ (.slice Ao79 t549.length co79)∧ax k_ (.slice Ao80 t552.length co80)∧ax k_ (.slice Ao196 t600.length co196)∧ax k_ (.slice Ao198 t603.length co198)) (.slice Ao45 t524.length co45) t524)∧Aside0 (Kd.R (Kd.int .i64) 2 wc w.heap.size (fun k_=>ax k_ (.slice Ao45 t524.length co45)∧ax k_ (.slice Ao57 t575.length co57)∧ax k_ (.slice Ao58 t576.length co58)∧ax k_ (.slice Ao68 t578.length co68)∧ax k_ (.slice Ao69 t579.length co69)∧ax k_ (.slice Ao79 t549.length co79)∧ax k_ (.slice Ao80 t552.length co80)∧ax k_ (.slice Ao196 t600.length co196)∧ax k_ (.slice Ao198 t603.length co198)) (.slice Ao47 t527.length co47) t527)∧Aside0 (Kd.R (Kd.int .i64) 2 wc w.heap.size (fun k_=>ax k_ (.slice Ao45 t524.length co45)∧ax k_ (.slice Ao47 t527.length co47)∧ax k_ (.slice Ao58 t576.length co58)∧ax k_ (.slice Ao68 t578.length co68)∧ax k_ (.slice Ao69 t579.length co69)∧ax k_ (.slice Ao79 t549.length co79)∧ax k_ (.slice Ao80 t552.length co80)∧ax k_ (.slice Ao196 t600.length co196)∧ax k_ (.slice Ao198 t603.length co198)) (.slice Ao57 t575.length co57) t575)∧Aside0 (Kd.R (Kd.int .i64) 2 wc w.heap.size (fun k_=>ax k_ (.slice Ao45 t524.length co45)∧ax k_ (.slice Ao47 t527.length co47)∧ax k_ (.slice Ao57 t575.length co57)∧ax k_ (.slice Ao68 t578.length co68)∧ax k_ (.slice Ao69 t579.length co69)∧ax k_ (.slice Ao79 t549.length co79)∧ax k_ (.slice Ao80 t552.length co80)∧ax k_ (.slice Ao196 t600.length co196)∧ax k_ (.slice Ao198 t603.length co198)) (.slice Ao58 t576.length co58) t576)∧Aside0 (Kd.R (Kd.int .i64) 2 wc w.heap.size (fun k_=>ax k_ (.slice Ao45 t524.length co45)∧ax k_ (.slice Ao47 t527.length co47)∧ax k_ (.slice Ao57 t575.length co57)∧ax k_ (.slice Ao58 t576.length co58)∧ax k_ (.slice Ao69 t579.length co69)∧ax k_ (.slice Ao79 t549.length co79)∧ax k_ (.slice Ao80 t552.length co80)∧ax k_ (.slice Ao196 t600.length co196)∧ax k_ (.slice Ao198 t603.length co198)) (.slice Ao68 t578.length co68) t578)∧Aside0 (Kd.R (Kd.int .i64) 2 wc w.heap.size (fun k_=>ax k_ (.slice Ao45 t524.length co45)∧ax k_ (.slice Ao47 t527.length co47)∧ax k_ (.slice Ao57 t575.length co57)∧ax k_ (.slice Ao58 t576.length co58)∧ax k_ (.slice Ao68 t578.length co68)∧ax k_ (.slice Ao79 t549.length co79)∧ax k_ (.slice Ao80 t552.length co80)∧ax k_ (.slice Ao196 t600.length co196)∧ax k_ (.slice Ao198 t603.length co198)) (.slice Ao69 t579.length co69) t579)∧Aside0 (Kd.R (Kd.int .i64) 2 wc w.heap.size (fun k_=>ax k_ (.slice Ao45 t524.length co45)∧ax k_ (.slice Ao47 t527.length co47)∧ax k_ (.slice Ao57 t575.length co57)∧ax k_ (.slice Ao58 t576.length co58)∧ax k_ (.slice Ao68 t578.length co68)∧ax k_ (.slice Ao69 t579.length co69)∧ax k_ (.slice Ao80 t552.length co80)∧ax k_ (.slice Ao196 t600.length co196)∧ax k_ (.slice Ao198 t603.length co198)) (.slice Ao79 t549.length co79) t582)∧Aside0 (Kd.R (Kd.int .i64) 2 wc w.heap.size (fun k_=>ax k_ (.slice Ao45 t524.length co45)∧ax k_ (.slice Ao47 t527.length co47)∧ax k_ (.slice Ao57 t575.length co57)∧ax k_ (.slice Ao58 t576.length co58)∧ax k_ (.slice Ao68 t578.length co68)∧ax k_ (.slice Ao69 t579.length co69)∧ax k_ (.slice Ao79 t549.length co79)∧ax k_ (.slice Ao196 t600.length co196)∧ax k_ (.slice Ao198 t603.length co198)) (.slice Ao80 t552.length co80) t583)∧Aside0 (Kd.R (Kd.int .i64) 2 wc w.heap.size (fun k_=>ax k_ (.slice Ao45 t524.length co45)∧ax k_ (.slice Ao47 t527.length co47)∧ax k_ (.slice Ao57 t575.length co57)∧ax k_ (.slice Ao58 t576.length co58)∧ax k_ (.slice Ao68 t578.length co68)∧ax k_ (.slice Ao69 t579.length co69)∧ax k_ (.slice Ao79 t549.length co79)∧ax k_ (.slice Ao80 t552.length co80)∧ax k_ (.slice Ao198 t603.length co198)) (.slice Ao196 t600.length co196) t600)∧Aside0 (Kd.R (Kd.int .i64) 2 wc w.heap.size (fun k_=>ax k_ (.slice Ao45 t524.length co45)∧ax k_ (.slice Ao47 t527.length co47)∧ax k_ (.slice Ao57 t575.length co57)∧ax k_ (.slice Ao58 t576.length co58)∧ax k_ (.slice Ao68 t578.length co68)∧ax k_ (.slice Ao69 t579.length co69)∧ax k_ (.slice Ao79 t549.length co79)∧ax k_ (.slice Ao80 t552.length co80)∧ax k_ (.slice Ao196 t600.length co196)) (.slice Ao198 t603.length co198) t603)∧Aside0 (wc.heap[gb505]? = some (.cells #[.int .i64 a0_0,(.slice A0_1 l0_1.length c0_1),(.slice A0_2 l0_2.length c0_2)] 49 (0,0)))∧Aside0 (wc.heap[gb506]? = some (.cells #[.int .i64 a1_0,(.slice A1_1 l1_1.length c1_1),(.slice A1_2 l1_2.length c1_2)] 49 (0,0)))∧Aside0 (wc.heap[gb531]? = some (.cells #[.int .i64 t523,(.slice Ao45 t524.length co45),(.slice Ao47 t527.length co47)] 51 (0,0)))∧Aside0 (wc.heap[gb539]? = some (.cells #[.int .i64 t532,(.slice Ao57 t575.length co57),(.slice Ao58 t576.length co58)] 51 (0,0)))∧Aside0 (wc.heap[gb547]? = some (.cells #[.int .i64 t540,(.slice Ao68 t578.length co68),(.slice Ao69 t579.length co69)] 51 (0,0)))∧Aside0 (wc.heap[gb556]? = some (.cells #[.int .i64 t548,(.slice Ao79 t549.length co79),(.slice Ao80 t552.length co80)] 51 (0,0)))∧Aside0 (wc.heap[gb607]? = some (.cells #[.int .i64 t599,(.slice Ao196 t600.length co196),(.slice Ao198 t603.length co198)] 51 (0,0)))∧Aside0 (Below w.heap.size w wc))
            case first =>
             have H:=HC175.out
             clear HC175
             replace H:=Option.bind_eq_some_iff.mp H
             obtain ⟨t608,A2000,H⟩:=H
             replace H : (if t608 = true then (laws_FnExactMergeRules.j2 kj115 t581 (t606 != t530) t548 t582 t583) else (laws_FnExactMergeRules.j2 kj115 t581 true t548 t582 t583)) = some r:=H
             have A200:=zA A2000
             clear A2000
             by_cases c201 : t608 = true
             ·subst c201
              have H1 : (laws_FnExactMergeRules.j2 kj115 t581 (t606 != t530) t548 t582 t583) = some r:=by rw [if_pos rfl] at H;exact H
              clear H
              have H:=H1
              clear H1
              have H':=zA H
              clear H
              have hnb202:=NB607_505.out;have hnc202:=NB505_607.out;have hnb203:=NB607_506.out;have hnc203:=NB506_607.out;have hnb204:=NB607_531.out;have hnc204:=NB531_607.out;have hnb205:=NB607_539.out;have hnc205:=NB539_607.out;have hnb206:=NB607_547.out;have hnc206:=NB547_607.out;have hnb207:=NB607_556.out;have hnc207:=NB556_607.out
              have hcz208_0:=bc BK607 0
              have hcz208_1:=bc BK607 1
              have hcz208_2:=bc BK607 2
              have hfz208_0:=bf BK607 0
              have hfz208_1:=bf BK607 1
              have hfz208_2:=bf BK607 2
              have hnb209:=NB531_505.out;have hnc209:=NB505_531.out;have hnb210:=NB531_506.out;have hnc210:=NB506_531.out;have hnb211:=NB531_539.out;have hnc211:=NB539_531.out;have hnb212:=NB531_547.out;have hnc212:=NB547_531.out;have hnb213:=NB531_556.out;have hnc213:=NB556_531.out
              have hcz214_0:=bc BK531 0
              have hcz214_1:=bc BK531 1
              have hcz214_2:=bc BK531 2
              have hfz214_0:=bf BK531 0
              have hfz214_1:=bf BK531 1
              have hfz214_2:=bf BK531 2
              go_wp2_with (first | ((with_reducible refine gate_callee (f:=29) rfl ?_);refine gL (some 109) Try.func29 #[.agg #[.int .i64 t599,.slice Ao196 t600.length co196,.slice Ao198 t603.length co198],.agg #[.int .i64 t523,.slice Ao45 t524.length co45,.slice Ao47 t527.length co47]] ?_;(with_reducible refine (laws_eqRule.calls kj115 t599 _ _ t600 _ _ t603 t523 _ _ t524 _ _ t527 true _ ?side1 ?side2 ?side3 ?side4 ?side5 ?side6 ?side7 ?side8 A200.out).mono ?_);(case side1=>exact rc (uR ((rf3 HO602 BK607 (by decide) (.int .i64 t599) (.slice Ao196 t600.length co196) (.slice Ao198 t603.length co198)))));(case side2=>exact (Kd.R_reads' HO602.out).2.1);(case side3=>exact rc (uR ((rf3 HO605 BK607 (by decide) (.int .i64 t599) (.slice Ao196 t600.length co196) (.slice Ao198 t603.length co198)))));(case side4=>exact (Kd.R_reads' HO605.out).2.1);(case side5=>exact rc (uR ((rf3 HO_532001 BK607 (by decide) (.int .i64 t599) (.slice Ao196 t600.length co196) (.slice Ao198 t603.length co198)))));(case side6=>exact (Kd.R_reads' HO_532001.out).2.1);(case side7=>exact rc (uR ((rf3 HO_532002 BK607 (by decide) (.int .i64 t599) (.slice Ao196 t600.length co196) (.slice Ao198 t603.length co198)))));(case side8=>exact (Kd.R_reads' HO_532002.out).2.1);rintro e w215 ⟨rfl,hb⟩;refine ⟨_,rfl,?_⟩;replace HO_532001:=zA (Kd.R_below (uR ((rf3 HO_532001 BK607 (by decide) (.int .i64 t599) (.slice Ao196 t600.length co196) (.slice Ao198 t603.length co198)))) hb);replace HO_532002:=zA (Kd.R_below (uR ((rf3 HO_532002 BK607 (by decide) (.int .i64 t599) (.slice Ao196 t600.length co196) (.slice Ao198 t603.length co198)))) hb);replace HO_540001:=zA (Kd.R_below (uR ((rf3 HO_540001 BK607 (by decide) (.int .i64 t599) (.slice Ao196 t600.length co196) (.slice Ao198 t603.length co198)))) hb);replace HO_540002:=zA (Kd.R_below (uR ((rf3 HO_540002 BK607 (by decide) (.int .i64 t599) (.slice Ao196 t600.length co196) (.slice Ao198 t603.length co198)))) hb);replace HO_548001:=zA (Kd.R_below (uR ((rf3 HO_548001 BK607 (by decide) (.int .i64 t599) (.slice Ao196 t600.length co196) (.slice Ao198 t603.length co198)))) hb);replace HO_548002:=zA (Kd.R_below (uR ((rf3 HO_548002 BK607 (by decide) (.int .i64 t599) (.slice Ao196 t600.length co196) (.slice Ao198 t603.length co198)))) hb);replace HO_557001:=zA (Kd.R_below (uR ((rf3 HO_557001 BK607 (by decide) (.int .i64 t599) (.slice Ao196 t600.length co196) (.slice Ao198 t603.length co198)))) hb);replace HO_557002:=zA (Kd.R_below (uR ((rf3 HO_557002 BK607 (by decide) (.int .i64 t599) (.slice Ao196 t600.length co196) (.slice Ao198 t603.length co198)))) hb);replace HO588:=zA (Kd.R_below (uR ((rf3 HO588 BK607 (by decide) (.int .i64 t599) (.slice Ao196 t600.length co196) (.slice Ao198 t603.length co198)))) hb);replace HO591:=zA (Kd.R_below (uR ((rf3 HO591 BK607 (by decide) (.int .i64 t599) (.slice Ao196 t600.length co196) (.slice Ao198 t603.length co198)))) hb);replace HO595:=zA (Kd.R_below (uR ((rf3 HO595 BK607 (by decide) (.int .i64 t599) (.slice Ao196 t600.length co196) (.slice Ao198 t603.length co198)))) hb);replace HO598:=zA (Kd.R_below (uR ((rf3 HO598 BK607 (by decide) (.int .i64 t599) (.slice Ao196 t600.length co196) (.slice Ao198 t603.length co198)))) hb);replace HO602:=zA (Kd.R_below (uR ((rf3 HO602 BK607 (by decide) (.int .i64 t599) (.slice Ao196 t600.length co196) (.slice Ao198 t603.length co198)))) hb);replace HO605:=zA (Kd.R_below (uR ((rf3 HO605 BK607 (by decide) (.int .i64 t599) (.slice Ao196 t600.length co196) (.slice Ao198 t603.length co198)))) hb);replace BK505:=zA (blk_below (g:=gb505) (o:=.cells #[.int .i64 a0_0,.slice A0_1 l0_1.length c0_1,.slice A0_2 l0_2.length c0_2] 49 (0,0)) (by (repeat refine up1 ?_);refine blk_far ?_ NB505_607.out _;(repeat refine up1 ?_);refine blk_far ?_ NB505_607.out _;(repeat refine up1 ?_);refine blk_far ?_ NB505_607.out _;(repeat refine up1 ?_);exact BK505.out) hb);replace BK506:=zA (blk_below (g:=gb506) (o:=.cells #[.int .i64 a1_0,.slice A1_1 l1_1.length c1_1,.slice A1_2 l1_2.length c1_2] 49 (0,0)) (by (repeat refine up1 ?_);refine blk_far ?_ NB506_607.out _;(repeat refine up1 ?_);refine blk_far ?_ NB506_607.out _;(repeat refine up1 ?_);refine blk_far ?_ NB506_607.out _;(repeat refine up1 ?_);exact BK506.out) hb);replace BK531:=zA (blk_below (g:=gb531) (o:=.cells #[.int .i64 t523,.slice Ao45 t524.length co45,.slice Ao47 t527.length co47] 51 (0,0)) (by (repeat refine up1 ?_);refine blk_far ?_ NB531_607.out _;(repeat refine up1 ?_);refine blk_far ?_ NB531_607.out _;(repeat refine up1 ?_);refine blk_far ?_ NB531_607.out _;(repeat refine up1 ?_);exact BK531.out) hb);replace BK539:=zA (blk_below (g:=gb539) (o:=.cells #[.int .i64 t532,.slice Ao57 t575.length co57,.slice Ao58 t576.length co58] 51 (0,0)) (by (repeat refine up1 ?_);refine blk_far ?_ NB539_607.out _;(repeat refine up1 ?_);refine blk_far ?_ NB539_607.out _;(repeat refine up1 ?_);refine blk_far ?_ NB539_607.out _;(repeat refine up1 ?_);exact BK539.out) hb);replace BK547:=zA (blk_below (g:=gb547) (o:=.cells #[.int .i64 t540,.slice Ao68 t578.length co68,.slice Ao69 t579.length co69] 51 (0,0)) (by (repeat refine up1 ?_);refine blk_far ?_ NB547_607.out _;(repeat refine up1 ?_);refine blk_far ?_ NB547_607.out _;(repeat refine up1 ?_);refine blk_far ?_ NB547_607.out _;(repeat refine up1 ?_);exact BK547.out) hb);replace BK556:=zA (blk_below (g:=gb556) (o:=.cells #[.int .i64 t548,.slice Ao79 t549.length co79,.slice Ao80 t552.length co80] 51 (0,0)) (by (repeat refine up1 ?_);refine blk_far ?_ NB556_607.out _;(repeat refine up1 ?_);refine blk_far ?_ NB556_607.out _;(repeat refine up1 ?_);refine blk_far ?_ NB556_607.out _;(repeat refine up1 ?_);exact BK556.out) hb);replace BK607:=zA (blk_below (g:=gb607) (o:=.cells #[.int .i64 t599,.slice Ao196 t600.length co196,.slice Ao198 t603.length co198] 51 (0,0)) (by (repeat refine up1 ?_);refine blk_put (cs:=#[.int .i64 t599,.slice Ao196 t600.length co196,.slice none 0 0]) ?_ 2 _ rfl;(repeat refine up1 ?_);refine blk_put (cs:=#[.int .i64 t599,.slice none 0 0,.slice none 0 0]) ?_ 1 _ rfl;(repeat refine up1 ?_);refine blk_put (cs:=#[.int .i64 0,.slice none 0 0,.slice none 0 0]) ?_ 0 _ rfl;(repeat refine up1 ?_);exact BK607.out) hb);replace HB:=xH HB hb;(try clear hb)))
              go_meet
              case rel=>exact ⟨_,((t606 != t530)),(by first | rfl | (simp;done) | (simp [*];done)),H',⟨by have:=HJ25.out;have:=HJ115.out;first | omega | exact Nat.le_refl _⟩,⟨by (try simp only [hl540001_115]);(try simp only [hl540002_115]);(try simp only [hl548001_115]);(try simp only [hl548002_115]);(with_reducible repeat (first | apply Kd.R_alloc | apply Kd.R_drewN | apply Kd.R_drew));exact Kd.R_mono HO_532001.out (fun _ ⟨_,_,_,_,i,j,a,b,c,d,f,g,h⟩=>⟨a,b,c,d,f,g,h,i,j⟩)⟩,⟨by (try simp only [hl540001_115]);(try simp only [hl540002_115]);(try simp only [hl548001_115]);(try simp only [hl548002_115]);(with_reducible repeat (first | apply Kd.R_alloc | apply Kd.R_drewN | apply Kd.R_drew));exact Kd.R_mono HO_532002.out (fun _ ⟨_,_,_,_,i,j,a,b,c,d,f,g,h⟩=>⟨a,b,c,d,f,g,h,i,j⟩)⟩,⟨by (try simp only [hl540001_115]);(try simp only [hl540002_115]);(try simp only [hl548001_115]);(try simp only [hl548002_115]);(with_reducible repeat (first | apply Kd.R_alloc | apply Kd.R_drewN | apply Kd.R_drew));exact Kd.R_mono HO_540001.out (fun _ ⟨_,_,_,_,i,j,a,b,c,d,f,g,h⟩=>⟨a,b,c,d,f,g,h,i,j⟩)⟩,⟨by (try simp only [hl540001_115]);(try simp only [hl540002_115]);(try simp only [hl548001_115]);(try simp only [hl548002_115]);(with_reducible repeat (first | apply Kd.R_alloc | apply Kd.R_drewN | apply Kd.R_drew));exact Kd.R_mono HO_540002.out (fun _ ⟨_,_,_,_,i,j,a,b,c,d,f,g,h⟩=>⟨a,b,c,d,f,g,h,i,j⟩)⟩,⟨by (try simp only [hl540001_115]);(try simp only [hl540002_115]);(try simp only [hl548001_115]);(try simp only [hl548002_115]);(with_reducible repeat (first | apply Kd.R_alloc | apply Kd.R_drewN | apply Kd.R_drew));exact Kd.R_mono HO_548001.out (fun _ ⟨_,_,_,_,i,j,a,b,c,d,f,g,h⟩=>⟨a,b,c,d,f,g,h,i,j⟩)⟩,⟨by (try simp only [hl540001_115]);(try simp only [hl540002_115]);(try simp only [hl548001_115]);(try simp only [hl548002_115]);(with_reducible repeat (first | apply Kd.R_alloc | apply Kd.R_drewN | apply Kd.R_drew));exact Kd.R_mono HO_548002.out (fun _ ⟨_,_,_,_,i,j,a,b,c,d,f,g,h⟩=>⟨a,b,c,d,f,g,h,i,j⟩)⟩,⟨by (try simp only [hl540001_115]);(try simp only [hl540002_115]);(try simp only [hl548001_115]);(try simp only [hl548002_115]);(with_reducible repeat (first | apply Kd.R_alloc | apply Kd.R_drewN | apply Kd.R_drew));exact Kd.R_mono HO_557001.out (fun _ ⟨_,_,_,_,i,j,a,b,c,d,f,g,h⟩=>⟨a,b,c,d,f,g,h,i,j⟩)⟩,⟨by (try simp only [hl540001_115]);(try simp only [hl540002_115]);(try simp only [hl548001_115]);(try simp only [hl548002_115]);(with_reducible repeat (first | apply Kd.R_alloc | apply Kd.R_drewN | apply Kd.R_drew));exact Kd.R_mono HO_557002.out (fun _ ⟨_,_,_,_,i,j,a,b,c,d,f,g,h⟩=>⟨a,b,c,d,f,g,h,i,j⟩)⟩,⟨by (try simp only [hl540001_115]);(try simp only [hl540002_115]);(try simp only [hl548001_115]);(try simp only [hl548002_115]);(with_reducible repeat (first | apply Kd.R_alloc | apply Kd.R_drewN | apply Kd.R_drew));exact Kd.R_mono HO602.out (fun _ ⟨_,_,_,_,j,a,b,c,d,f,g,h,i⟩=>⟨a,b,c,d,f,g,h,i,j⟩)⟩,⟨by (try simp only [hl540001_115]);(try simp only [hl540002_115]);(try simp only [hl548001_115]);(try simp only [hl548002_115]);(with_reducible repeat (first | apply Kd.R_alloc | apply Kd.R_drewN | apply Kd.R_drew));exact Kd.R_mono HO605.out (fun _ ⟨_,_,_,_,j,a,b,c,d,f,g,h,i⟩=>⟨a,b,c,d,f,g,h,i,j⟩)⟩,⟨by (try simp only [hl540001_115]);(try simp only [hl540002_115]);(try simp only [hl548001_115]);(try simp only [hl548002_115]);(repeat refine up1 ?_);exact BK505.out⟩,⟨by (try simp only [hl540001_115]);(try simp only [hl540002_115]);(try simp only [hl548001_115]);(try simp only [hl548002_115]);(repeat refine up1 ?_);exact BK506.out⟩,⟨by (try simp only [hl540001_115]);(try simp only [hl540002_115]);(try simp only [hl548001_115]);(try simp only [hl548002_115]);(repeat refine up1 ?_);exact BK531.out⟩,⟨by (try simp only [hl540001_115]);(try simp only [hl540002_115]);(try simp only [hl548001_115]);(try simp only [hl548002_115]);(repeat refine up1 ?_);exact BK539.out⟩,⟨by (try simp only [hl540001_115]);(try simp only [hl540002_115]);(try simp only [hl548001_115]);(try simp only [hl548002_115]);(repeat refine up1 ?_);exact BK547.out⟩,⟨by (try simp only [hl540001_115]);(try simp only [hl540002_115]);(try simp only [hl548001_115]);(try simp only [hl548002_115]);(repeat refine up1 ?_);exact BK556.out⟩,⟨by (try simp only [hl540001_115]);(try simp only [hl540002_115]);(try simp only [hl548001_115]);(try simp only [hl548002_115]);(repeat refine up1 ?_);exact BK607.out⟩,⟨uH HB.out⟩⟩
             ·replace c201:=Bool.eq_false_iff.mpr c201
              subst c201
              have H1 : (laws_FnExactMergeRules.j2 kj115 t581 true t548 t582 t583) = some r:=by rw [if_neg (show ¬ (false = true) by decide)] at H;exact H
              clear H
              have H:=H1
              clear H1
              have H':=zA H
              clear H
              have hnb216:=NB607_505.out;have hnc216:=NB505_607.out;have hnb217:=NB607_506.out;have hnc217:=NB506_607.out;have hnb218:=NB607_531.out;have hnc218:=NB531_607.out;have hnb219:=NB607_539.out;have hnc219:=NB539_607.out;have hnb220:=NB607_547.out;have hnc220:=NB547_607.out;have hnb221:=NB607_556.out;have hnc221:=NB556_607.out
              have hcz222_0:=bc BK607 0
              have hcz222_1:=bc BK607 1
              have hcz222_2:=bc BK607 2
              have hfz222_0:=bf BK607 0
              have hfz222_1:=bf BK607 1
              have hfz222_2:=bf BK607 2
              have hnb223:=NB531_505.out;have hnc223:=NB505_531.out;have hnb224:=NB531_506.out;have hnc224:=NB506_531.out;have hnb225:=NB531_539.out;have hnc225:=NB539_531.out;have hnb226:=NB531_547.out;have hnc226:=NB547_531.out;have hnb227:=NB531_556.out;have hnc227:=NB556_531.out
              have hcz228_0:=bc BK531 0
              have hcz228_1:=bc BK531 1
              have hcz228_2:=bc BK531 2
              have hfz228_0:=bf BK531 0
              have hfz228_1:=bf BK531 1
              have hfz228_2:=bf BK531 2
              go_wp2_with (first | ((with_reducible refine gate_callee (f:=29) rfl ?_);refine gL (some 109) Try.func29 #[.agg #[.int .i64 t599,.slice Ao196 t600.length co196,.slice Ao198 t603.length co198],.agg #[.int .i64 t523,.slice Ao45 t524.length co45,.slice Ao47 t527.length co47]] ?_;(with_reducible refine (laws_eqRule.calls kj115 t599 _ _ t600 _ _ t603 t523 _ _ t524 _ _ t527 false _ ?side1 ?side2 ?side3 ?side4 ?side5 ?side6 ?side7 ?side8 A200.out).mono ?_);(case side1=>exact rc (uR ((rf3 HO602 BK607 (by decide) (.int .i64 t599) (.slice Ao196 t600.length co196) (.slice Ao198 t603.length co198)))));(case side2=>exact (Kd.R_reads' HO602.out).2.1);(case side3=>exact rc (uR ((rf3 HO605 BK607 (by decide) (.int .i64 t599) (.slice Ao196 t600.length co196) (.slice Ao198 t603.length co198)))));(case side4=>exact (Kd.R_reads' HO605.out).2.1);(case side5=>exact rc (uR ((rf3 HO_532001 BK607 (by decide) (.int .i64 t599) (.slice Ao196 t600.length co196) (.slice Ao198 t603.length co198)))));(case side6=>exact (Kd.R_reads' HO_532001.out).2.1);(case side7=>exact rc (uR ((rf3 HO_532002 BK607 (by decide) (.int .i64 t599) (.slice Ao196 t600.length co196) (.slice Ao198 t603.length co198)))));(case side8=>exact (Kd.R_reads' HO_532002.out).2.1);rintro e w229 ⟨rfl,hb⟩;refine ⟨_,rfl,?_⟩;replace HO_532001:=zA (Kd.R_below (uR ((rf3 HO_532001 BK607 (by decide) (.int .i64 t599) (.slice Ao196 t600.length co196) (.slice Ao198 t603.length co198)))) hb);replace HO_532002:=zA (Kd.R_below (uR ((rf3 HO_532002 BK607 (by decide) (.int .i64 t599) (.slice Ao196 t600.length co196) (.slice Ao198 t603.length co198)))) hb);replace HO_540001:=zA (Kd.R_below (uR ((rf3 HO_540001 BK607 (by decide) (.int .i64 t599) (.slice Ao196 t600.length co196) (.slice Ao198 t603.length co198)))) hb);replace HO_540002:=zA (Kd.R_below (uR ((rf3 HO_540002 BK607 (by decide) (.int .i64 t599) (.slice Ao196 t600.length co196) (.slice Ao198 t603.length co198)))) hb);replace HO_548001:=zA (Kd.R_below (uR ((rf3 HO_548001 BK607 (by decide) (.int .i64 t599) (.slice Ao196 t600.length co196) (.slice Ao198 t603.length co198)))) hb);replace HO_548002:=zA (Kd.R_below (uR ((rf3 HO_548002 BK607 (by decide) (.int .i64 t599) (.slice Ao196 t600.length co196) (.slice Ao198 t603.length co198)))) hb);replace HO_557001:=zA (Kd.R_below (uR ((rf3 HO_557001 BK607 (by decide) (.int .i64 t599) (.slice Ao196 t600.length co196) (.slice Ao198 t603.length co198)))) hb);replace HO_557002:=zA (Kd.R_below (uR ((rf3 HO_557002 BK607 (by decide) (.int .i64 t599) (.slice Ao196 t600.length co196) (.slice Ao198 t603.length co198)))) hb);replace HO588:=zA (Kd.R_below (uR ((rf3 HO588 BK607 (by decide) (.int .i64 t599) (.slice Ao196 t600.length co196) (.slice Ao198 t603.length co198)))) hb);replace HO591:=zA (Kd.R_below (uR ((rf3 HO591 BK607 (by decide) (.int .i64 t599) (.slice Ao196 t600.length co196) (.slice Ao198 t603.length co198)))) hb);replace HO595:=zA (Kd.R_below (uR ((rf3 HO595 BK607 (by decide) (.int .i64 t599) (.slice Ao196 t600.length co196) (.slice Ao198 t603.length co198)))) hb);replace HO598:=zA (Kd.R_below (uR ((rf3 HO598 BK607 (by decide) (.int .i64 t599) (.slice Ao196 t600.length co196) (.slice Ao198 t603.length co198)))) hb);replace HO602:=zA (Kd.R_below (uR ((rf3 HO602 BK607 (by decide) (.int .i64 t599) (.slice Ao196 t600.length co196) (.slice Ao198 t603.length co198)))) hb);replace HO605:=zA (Kd.R_below (uR ((rf3 HO605 BK607 (by decide) (.int .i64 t599) (.slice Ao196 t600.length co196) (.slice Ao198 t603.length co198)))) hb);replace BK505:=zA (blk_below (g:=gb505) (o:=.cells #[.int .i64 a0_0,.slice A0_1 l0_1.length c0_1,.slice A0_2 l0_2.length c0_2] 49 (0,0)) (by (repeat refine up1 ?_);refine blk_far ?_ NB505_607.out _;(repeat refine up1 ?_);refine blk_far ?_ NB505_607.out _;(repeat refine up1 ?_);refine blk_far ?_ NB505_607.out _;(repeat refine up1 ?_);exact BK505.out) hb);replace BK506:=zA (blk_below (g:=gb506) (o:=.cells #[.int .i64 a1_0,.slice A1_1 l1_1.length c1_1,.slice A1_2 l1_2.length c1_2] 49 (0,0)) (by (repeat refine up1 ?_);refine blk_far ?_ NB506_607.out _;(repeat refine up1 ?_);refine blk_far ?_ NB506_607.out _;(repeat refine up1 ?_);refine blk_far ?_ NB506_607.out _;(repeat refine up1 ?_);exact BK506.out) hb);replace BK531:=zA (blk_below (g:=gb531) (o:=.cells #[.int .i64 t523,.slice Ao45 t524.length co45,.slice Ao47 t527.length co47] 51 (0,0)) (by (repeat refine up1 ?_);refine blk_far ?_ NB531_607.out _;(repeat refine up1 ?_);refine blk_far ?_ NB531_607.out _;(repeat refine up1 ?_);refine blk_far ?_ NB531_607.out _;(repeat refine up1 ?_);exact BK531.out) hb);replace BK539:=zA (blk_below (g:=gb539) (o:=.cells #[.int .i64 t532,.slice Ao57 t575.length co57,.slice Ao58 t576.length co58] 51 (0,0)) (by (repeat refine up1 ?_);refine blk_far ?_ NB539_607.out _;(repeat refine up1 ?_);refine blk_far ?_ NB539_607.out _;(repeat refine up1 ?_);refine blk_far ?_ NB539_607.out _;(repeat refine up1 ?_);exact BK539.out) hb);replace BK547:=zA (blk_below (g:=gb547) (o:=.cells #[.int .i64 t540,.slice Ao68 t578.length co68,.slice Ao69 t579.length co69] 51 (0,0)) (by (repeat refine up1 ?_);refine blk_far ?_ NB547_607.out _;(repeat refine up1 ?_);refine blk_far ?_ NB547_607.out _;(repeat refine up1 ?_);refine blk_far ?_ NB547_607.out _;(repeat refine up1 ?_);exact BK547.out) hb);replace BK556:=zA (blk_below (g:=gb556) (o:=.cells #[.int .i64 t548,.slice Ao79 t549.length co79,.slice Ao80 t552.length co80] 51 (0,0)) (by (repeat refine up1 ?_);refine blk_far ?_ NB556_607.out _;(repeat refine up1 ?_);refine blk_far ?_ NB556_607.out _;(repeat refine up1 ?_);refine blk_far ?_ NB556_607.out _;(repeat refine up1 ?_);exact BK556.out) hb);replace BK607:=zA (blk_below (g:=gb607) (o:=.cells #[.int .i64 t599,.slice Ao196 t600.length co196,.slice Ao198 t603.length co198] 51 (0,0)) (by (repeat refine up1 ?_);refine blk_put (cs:=#[.int .i64 t599,.slice Ao196 t600.length co196,.slice none 0 0]) ?_ 2 _ rfl;(repeat refine up1 ?_);refine blk_put (cs:=#[.int .i64 t599,.slice none 0 0,.slice none 0 0]) ?_ 1 _ rfl;(repeat refine up1 ?_);refine blk_put (cs:=#[.int .i64 0,.slice none 0 0,.slice none 0 0]) ?_ 0 _ rfl;(repeat refine up1 ?_);exact BK607.out) hb);replace HB:=xH HB hb;(try clear hb)))
              go_meet
              case rel=>exact ⟨_,(true),(by first | rfl | (simp;done) | (simp [*];done)),H',⟨by have:=HJ25.out;have:=HJ115.out;first | omega | exact Nat.le_refl _⟩,⟨by (try simp only [hl540001_115]);(try simp only [hl540002_115]);(try simp only [hl548001_115]);(try simp only [hl548002_115]);(with_reducible repeat (first | apply Kd.R_alloc | apply Kd.R_drewN | apply Kd.R_drew));exact Kd.R_mono HO_532001.out (fun _ ⟨_,_,_,_,i,j,a,b,c,d,f,g,h⟩=>⟨a,b,c,d,f,g,h,i,j⟩)⟩,⟨by (try simp only [hl540001_115]);(try simp only [hl540002_115]);(try simp only [hl548001_115]);(try simp only [hl548002_115]);(with_reducible repeat (first | apply Kd.R_alloc | apply Kd.R_drewN | apply Kd.R_drew));exact Kd.R_mono HO_532002.out (fun _ ⟨_,_,_,_,i,j,a,b,c,d,f,g,h⟩=>⟨a,b,c,d,f,g,h,i,j⟩)⟩,⟨by (try simp only [hl540001_115]);(try simp only [hl540002_115]);(try simp only [hl548001_115]);(try simp only [hl548002_115]);(with_reducible repeat (first | apply Kd.R_alloc | apply Kd.R_drewN | apply Kd.R_drew));exact Kd.R_mono HO_540001.out (fun _ ⟨_,_,_,_,i,j,a,b,c,d,f,g,h⟩=>⟨a,b,c,d,f,g,h,i,j⟩)⟩,⟨by (try simp only [hl540001_115]);(try simp only [hl540002_115]);(try simp only [hl548001_115]);(try simp only [hl548002_115]);(with_reducible repeat (first | apply Kd.R_alloc | apply Kd.R_drewN | apply Kd.R_drew));exact Kd.R_mono HO_540002.out (fun _ ⟨_,_,_,_,i,j,a,b,c,d,f,g,h⟩=>⟨a,b,c,d,f,g,h,i,j⟩)⟩,⟨by (try simp only [hl540001_115]);(try simp only [hl540002_115]);(try simp only [hl548001_115]);(try simp only [hl548002_115]);(with_reducible repeat (first | apply Kd.R_alloc | apply Kd.R_drewN | apply Kd.R_drew));exact Kd.R_mono HO_548001.out (fun _ ⟨_,_,_,_,i,j,a,b,c,d,f,g,h⟩=>⟨a,b,c,d,f,g,h,i,j⟩)⟩,⟨by (try simp only [hl540001_115]);(try simp only [hl540002_115]);(try simp only [hl548001_115]);(try simp only [hl548002_115]);(with_reducible repeat (first | apply Kd.R_alloc | apply Kd.R_drewN | apply Kd.R_drew));exact Kd.R_mono HO_548002.out (fun _ ⟨_,_,_,_,i,j,a,b,c,d,f,g,h⟩=>⟨a,b,c,d,f,g,h,i,j⟩)⟩,⟨by (try simp only [hl540001_115]);(try simp only [hl540002_115]);(try simp only [hl548001_115]);(try simp only [hl548002_115]);(with_reducible repeat (first | apply Kd.R_alloc | apply Kd.R_drewN | apply Kd.R_drew));exact Kd.R_mono HO_557001.out (fun _ ⟨_,_,_,_,i,j,a,b,c,d,f,g,h⟩=>⟨a,b,c,d,f,g,h,i,j⟩)⟩,⟨by (try simp only [hl540001_115]);(try simp only [hl540002_115]);(try simp only [hl548001_115]);(try simp only [hl548002_115]);(with_reducible repeat (first | apply Kd.R_alloc | apply Kd.R_drewN | apply Kd.R_drew));exact Kd.R_mono HO_557002.out (fun _ ⟨_,_,_,_,i,j,a,b,c,d,f,g,h⟩=>⟨a,b,c,d,f,g,h,i,j⟩)⟩,⟨by (try simp only [hl540001_115]);(try simp only [hl540002_115]);(try simp only [hl548001_115]);(try simp only [hl548002_115]);(with_reducible repeat (first | apply Kd.R_alloc | apply Kd.R_drewN | apply Kd.R_drew));exact Kd.R_mono HO602.out (fun _ ⟨_,_,_,_,j,a,b,c,d,f,g,h,i⟩=>⟨a,b,c,d,f,g,h,i,j⟩)⟩,⟨by (try simp only [hl540001_115]);(try simp only [hl540002_115]);(try simp only [hl548001_115]);(try simp only [hl548002_115]);(with_reducible repeat (first | apply Kd.R_alloc | apply Kd.R_drewN | apply Kd.R_drew));exact Kd.R_mono HO605.out (fun _ ⟨_,_,_,_,j,a,b,c,d,f,g,h,i⟩=>⟨a,b,c,d,f,g,h,i,j⟩)⟩,⟨by (try simp only [hl540001_115]);(try simp only [hl540002_115]);(try simp only [hl548001_115]);(try simp only [hl548002_115]);(repeat refine up1 ?_);exact BK505.out⟩,⟨by (try simp only [hl540001_115]);(try simp only [hl540002_115]);(try simp only [hl548001_115]);(try simp only [hl548002_115]);(repeat refine up1 ?_);exact BK506.out⟩,⟨by (try simp only [hl540001_115]);(try simp only [hl540002_115]);(try simp only [hl548001_115]);(try simp only [hl548002_115]);(repeat refine up1 ?_);exact BK531.out⟩,⟨by (try simp only [hl540001_115]);(try simp only [hl540002_115]);(try simp only [hl548001_115]);(try simp only [hl548002_115]);(repeat refine up1 ?_);exact BK539.out⟩,⟨by (try simp only [hl540001_115]);(try simp only [hl540002_115]);(try simp only [hl548001_115]);(try simp only [hl548002_115]);(repeat refine up1 ?_);exact BK547.out⟩,⟨by (try simp only [hl540001_115]);(try simp only [hl540002_115]);(try simp only [hl548001_115]);(try simp only [hl548002_115]);(repeat refine up1 ?_);exact BK556.out⟩,⟨by (try simp only [hl540001_115]);(try simp only [hl540002_115]);(try simp only [hl548001_115]);(try simp only [hl548002_115]);(repeat refine up1 ?_);exact BK607.out⟩,⟨uH HB.out⟩⟩
            case rest =>
             clear HC175
             (try clear c1);(try clear c2);(try clear p2);(try clear c20);(try clear c21);(try clear c22);(try clear c27);(try clear c28);(try clear c29);(try clear c201);(try clear c202);(try clear c203);(try clear c204);(try clear c205);(try clear c206);(try clear c207);(try clear c209);(try clear c210);(try clear c211);(try clear c212);(try clear c213);(try clear c216);(try clear c217);(try clear c218)
             (try clear c219);(try clear c220);(try clear c221);(try clear c223);(try clear c224);(try clear c225);(try clear c226);(try clear c227);(try clear hcz208_0);(try clear hcz208_1);(try clear hcz208_2);(try clear hcz214_0);(try clear hcz214_1);(try clear hcz214_2);(try clear hcz222_0);(try clear hcz222_1);(try clear hcz222_2);(try clear hcz228_0);(try clear hcz228_1);(try clear hcz228_2)
             (try clear hfz208_0);(try clear hfz208_1);(try clear hfz208_2);(try clear hfz214_0);(try clear hfz214_1);(try clear hfz214_2);(try clear hfz222_0);(try clear hfz222_1);(try clear hfz222_2);(try clear hfz228_0);(try clear hfz228_1);(try clear hfz228_2)
             obtain ⟨kq,x115_174,rfl,HA,HJ174,HO_532001,HO_532002,HO_540001,HO_540002,HO_548001,HO_548002,HO_557001,HO_557002,HO_608001,HO_608002,BK505,BK506,BK531,BK539,BK547,BK556,BK607,HB⟩:=hcut
             have hl557001_174:=(Kd.R_reads' HO_557001.out).1
             rw [hl557001_174] at HO_557001
             (try simp only [hl557001_174])
             (try simp only [hl557001_174] at BK505)
             (try simp only [hl557001_174] at BK506)
             (try simp only [hl557001_174] at BK531)
             (try simp only [hl557001_174] at BK539)
             (try simp only [hl557001_174] at BK547)
             (try simp only [hl557001_174] at BK556)
             (try simp only [hl557001_174] at BK607)
             (try simp only [hl557001_174] at HO_532001)
             (try simp only [hl557001_174] at HO_532002)
             (try simp only [hl557001_174] at HO_540001)
             (try simp only [hl557001_174] at HO_540002)
             (try simp only [hl557001_174] at HO_548001)
             (try simp only [hl557001_174] at HO_548002)
             (try simp only [hl557001_174] at HO_557002)
             (try simp only [hl557001_174] at HO_608001)
             (try simp only [hl557001_174] at HO_608002)
             have hl557002_174:=(Kd.R_reads' HO_557002.out).1
             rw [hl557002_174] at HO_557002
             (try simp only [hl557002_174])
             (try simp only [hl557002_174] at BK505)
             (try simp only [hl557002_174] at BK506)
             (try simp only [hl557002_174] at BK531)
             (try simp only [hl557002_174] at BK539)
             (try simp only [hl557002_174] at BK547)
             (try simp only [hl557002_174] at BK556)
             (try simp only [hl557002_174] at BK607)
             (try simp only [hl557002_174] at HO_532001)
             (try simp only [hl557002_174] at HO_532002)
             (try simp only [hl557002_174] at HO_540001)
             (try simp only [hl557002_174] at HO_540002)
             (try simp only [hl557002_174] at HO_548001)
             (try simp only [hl557002_174] at HO_548002)
             (try simp only [hl557002_174] at HO_557001)
             (try simp only [hl557002_174] at HO_608001)
             (try simp only [hl557002_174] at HO_608002)
             cases kq with
             | zero=>exact absurd HA.out (by simp [laws_FnExactMergeRules.j2])
             | succ kj174 =>
              have H:=HA.out
              clear HA
              simp only [laws_FnExactMergeRules.j2] at H
              by_cases c230 : x115_174 = true
              ·subst c230
               have H1 : (some false) = some r:=by rw [if_pos rfl] at H;exact H
               clear H
               have H:=H1
               clear H1
               rw [HRT.out] at H
               exact absurd H (by simp)
              ·replace c230:=Bool.eq_false_iff.mpr c230
               subst c230
               have H1 : ((laws_heldRule.f kj174 t548 t582 t583 1).bind fun t609=>(if t609 < 0 then (some false) else (if t609 = t581 then (some true) else (some false)))) = some r:=by rw [if_neg (show ¬ (false = true) by decide)] at H;exact H
               clear H
               have H:=H1
               clear H1
               replace H:=Option.bind_eq_some_iff.mp H
               obtain ⟨t609,A2310,H⟩:=H
               replace H : (if t609 < 0 then (some false) else (if t609 = t581 then (some true) else (some false))) = some r:=H
               have A231:=zA A2310
               clear A2310
               by_cases c232 : t609 < 0
               rotate_left
               ·rw [if_neg c232] at H
                have c232b0 : decide (t609 < 0) = false:=decide_eq_false c232
                clear c232
                by_cases c233 : t609 = t581
                rotate_left
                ·rw [if_neg c233] at H
                 have c233b0 : (t609 == t581) = false:=beq_eq_false_iff_ne.mpr c233
                 have c233b1 : (t609 != t581) = true:=bne_iff_ne.mpr c233
                 rw [HRT.out] at H
                 exact absurd H (by simp)
                rw [if_pos c233] at H
                have c233b0 : (t609 == t581) = true:=beq_iff_eq.mpr c233
                have c233b1 : (t609 != t581) = false:=bne_eq_false_iff_eq.mpr c233
                clear c233
                obtain rfl:=Option.some.inj H
                have hnb234:=NB556_505.out;have hnc234:=NB505_556.out;have hnb235:=NB556_506.out;have hnc235:=NB506_556.out;have hnb236:=NB556_531.out;have hnc236:=NB531_556.out;have hnb237:=NB556_539.out;have hnc237:=NB539_556.out;have hnb238:=NB556_547.out;have hnc238:=NB547_556.out;have hnb239:=NB556_607.out;have hnc239:=NB607_556.out
                have hcz240_0:=bc BK556 0
                have hcz240_1:=bc BK556 1
                have hcz240_2:=bc BK556 2
                have hfz240_0:=bf BK556 0
                have hfz240_1:=bf BK556 1
                have hfz240_2:=bf BK556 2
                go_wp2_with (first | ((with_reducible refine gate_callee (f:=31) rfl ?_);refine gL (some 118) Try.func31 #[.agg #[.int .i64 t548,.slice Ao79 t582.length co79,.slice Ao80 t583.length co80],.int .i64 1] ?_;(with_reducible refine (laws_heldRule.calls kj174 t548 _ _ t582 _ _ t583 1 t609 _ ?side1 ?side2 ?side3 ?side4 A231.out).mono ?_);(case side1=>exact uC ((Kd.R_reads' HO_557001.out).2.2));(case side2=>exact (Kd.R_reads' HO_557001.out).2.1);(case side3=>exact uC ((Kd.R_reads' HO_557002.out).2.2));(case side4=>exact (Kd.R_reads' HO_557002.out).2.1);rintro e w241 ⟨rfl,hb⟩;refine ⟨_,rfl,?_⟩;replace HO_532001:=xR HO_532001 hb;replace HO_532002:=xR HO_532002 hb;replace HO_540001:=xR HO_540001 hb;replace HO_540002:=xR HO_540002 hb;replace HO_548001:=xR HO_548001 hb;replace HO_548002:=xR HO_548002 hb;replace HO_557001:=xR HO_557001 hb;replace HO_557002:=xR HO_557002 hb;replace HO_608001:=xR HO_608001 hb;replace HO_608002:=xR HO_608002 hb;replace BK505:=xB BK505 hb;replace BK506:=xB BK506 hb;replace BK531:=xB BK531 hb;replace BK539:=xB BK539 hb;replace BK547:=xB BK547 hb;replace BK556:=xB BK556 hb;replace BK607:=xB BK607 hb;replace HB:=xH HB hb;(try clear hb)))
                go_ret
                exact ⟨by first | rfl | (simp [errW_none,errW_some] <;> rfl) | (simp [*,errW_none,errW_some] <;> rfl),uH HB.out⟩
               rw [if_pos c232] at H
               have c232b0 : decide (t609 < 0) = true:=decide_eq_true c232
               clear c232
               rw [HRT.out] at H
               exact absurd H (by simp)
           rw [if_pos c170] at H
           have c170b0 : decide (t584 < 0) = true:=decide_eq_true c170
           clear c170
           rw [HRT.out] at H
           exact absurd H (by simp)
       ·replace c113:=Bool.eq_false_iff.mpr c113
        subst c113
        have H1 : (some false) = some r:=by rw [if_neg (show ¬ (false = true) by decide)] at H;exact H
        clear H
        have H:=H1
        clear H1
        rw [HRT.out] at H
        exact absurd H (by simp)
      ·replace c110:=Bool.eq_false_iff.mpr c110
       subst c110
       have H1 : (some false) = some r:=by rw [if_neg (show ¬ (false = true) by decide)] at H;exact H
       clear H
       have H:=H1
       clear H1
       rw [HRT.out] at H
       exact absurd H (by simp)

  rw [if_pos c12] at H
  have c12b0 : decide (t508 < 0) = true:=decide_eq_true c12
  clear c12
  obtain rfl:=Option.some.inj H
  go_enter Try.func5,Try.ntmps5
  go_wp2_with (first | ((with_reducible refine gate_dst (N:=3) rfl ?_);refine bx 3 #[.int .i64 a0_0,.slice A0_1 l0_1.length c0_1,.slice A0_2 l0_2.length c0_2] 49 ?_;intro gb505 hg w13 hbox hb;have BK505:=zA (hbox);have GW505:=gq HB hg;have GE505:=gq HB hg;replace HB:=xH HB hb;have:=geI GE505;clear hb hbox hg) | ((with_reducible refine gate_dst (N:=4) rfl ?_);refine bx 4 #[.int .i64 a1_0,.slice A1_1 l1_1.length c1_1,.slice A1_2 l1_2.length c1_2] 49 ?_;intro gb506 hg w14 hbox hb;have BK506:=zA (hbox);have GW506:=gq HB hg;have GE506:=gq HB hg;replace HB:=xH HB hb;have NB505_506:=zA ((by rw [hg];exact neL BK505 : gb505 ≠ gb506));have NB506_505:=zA ((by rw [hg];exact neG BK505 : gb506 ≠ gb505));replace BK505:=xB BK505 hb;have:=geI GE506;clear hb hbox hg;have hnb15:=NB505_506.out;have hnc15:=NB506_505.out;have hcz16_0:=bc BK505 0;have hcz16_1:=bc BK505 1;have hcz16_2:=bc BK505 2;have hfz16_0:=bf BK505 0;have hfz16_1:=bf BK505 1;have hfz16_2:=bf BK505 2) | ((with_reducible refine gate_callee (f:=25) rfl ?_);refine gL (some 21) Try.func25 #[.agg #[.int .i64 a0_0,.slice A0_1 l0_1.length c0_1,.slice A0_2 l0_2.length c0_2],.int .i64 1048576] ?_;(with_reducible refine (laws_szRule.calls a0_0 _ _ l0_1 _ _ l0_2 1048576 t507 _ ?side1 ?side2 ?side3 ?side4 A4.out).mono ?_);(case side1=>exact uC ((Kd.C_below HR0_1.out HB.out)));(case side2=>exact HC0_1.out);(case side3=>exact uC ((Kd.C_below HR0_2.out HB.out)));(case side4=>exact HC0_2.out);rintro e w17 ⟨rfl,hb⟩;refine ⟨_,rfl,?_⟩;replace BK505:=xB BK505 hb;replace BK506:=xB BK506 hb;replace HB:=xH HB hb;(try clear hb);have hcz18_0:=bc BK506 0;have hcz18_1:=bc BK506 1;have hcz18_2:=bc BK506 2;have hfz18_0:=bf BK506 0;have hfz18_1:=bf BK506 1;have hfz18_2:=bf BK506 2) | ((with_reducible refine gate_callee (f:=25) rfl ?_);refine gL (some 26) Try.func25 #[.agg #[.int .i64 a1_0,.slice A1_1 l1_1.length c1_1,.slice A1_2 l1_2.length c1_2],.int .i64 t507] ?_;(with_reducible refine (laws_szRule.calls a1_0 _ _ l1_1 _ _ l1_2 t507 t508 _ ?side1 ?side2 ?side3 ?side4 A11.out).mono ?_);(case side1=>exact uC ((Kd.C_below HR1_1.out HB.out)));(case side2=>exact HC1_1.out);(case side3=>exact uC ((Kd.C_below HR1_2.out HB.out)));(case side4=>exact HC1_2.out);rintro e w19 ⟨rfl,hb⟩;refine ⟨_,rfl,?_⟩;replace BK505:=xB BK505 hb;replace BK506:=xB BK506 hb;replace HB:=xH HB hb;(try clear hb)))
  go_ret
  exact ⟨by first | rfl | (simp [errW_none,errW_some] <;> rfl) | (simp [*,errW_none,errW_some] <;> rfl),uH HB.out⟩
 rw [if_pos c5] at H
 have c5b0 : decide (t507 < 0) = true:=decide_eq_true c5
 clear c5
 obtain rfl:=Option.some.inj H
 go_enter Try.func5,Try.ntmps5
 go_wp2_with (first | ((with_reducible refine gate_dst (N:=3) rfl ?_);refine bx 3 #[.int .i64 a0_0,.slice A0_1 l0_1.length c0_1,.slice A0_2 l0_2.length c0_2] 49 ?_;intro gb505 hg w6 hbox hb;have BK505:=zA (hbox);have GW505:=gq HB hg;have GE505:=gq HB hg;replace HB:=xH HB hb;have:=geI GE505;clear hb hbox hg) | ((with_reducible refine gate_dst (N:=4) rfl ?_);refine bx 4 #[.int .i64 a1_0,.slice A1_1 l1_1.length c1_1,.slice A1_2 l1_2.length c1_2] 49 ?_;intro gb506 hg w7 hbox hb;have BK506:=zA (hbox);have GW506:=gq HB hg;have GE506:=gq HB hg;replace HB:=xH HB hb;have NB505_506:=zA ((by rw [hg];exact neL BK505 : gb505 ≠ gb506));have NB506_505:=zA ((by rw [hg];exact neG BK505 : gb506 ≠ gb505));replace BK505:=xB BK505 hb;have:=geI GE506;clear hb hbox hg;have hnb8:=NB505_506.out;have hnc8:=NB506_505.out;have hcz9_0:=bc BK505 0;have hcz9_1:=bc BK505 1;have hcz9_2:=bc BK505 2;have hfz9_0:=bf BK505 0;have hfz9_1:=bf BK505 1;have hfz9_2:=bf BK505 2) | ((with_reducible refine gate_callee (f:=25) rfl ?_);refine gL (some 21) Try.func25 #[.agg #[.int .i64 a0_0,.slice A0_1 l0_1.length c0_1,.slice A0_2 l0_2.length c0_2],.int .i64 1048576] ?_;(with_reducible refine (laws_szRule.calls a0_0 _ _ l0_1 _ _ l0_2 1048576 t507 _ ?side1 ?side2 ?side3 ?side4 A4.out).mono ?_);(case side1=>exact uC ((Kd.C_below HR0_1.out HB.out)));(case side2=>exact HC0_1.out);(case side3=>exact uC ((Kd.C_below HR0_2.out HB.out)));(case side4=>exact HC0_2.out);rintro e w10 ⟨rfl,hb⟩;refine ⟨_,rfl,?_⟩;replace BK505:=xB BK505 hb;replace BK506:=xB BK506 hb;replace HB:=xH HB hb;(try clear hb)))
 go_ret
 exact ⟨by first | rfl | (simp [errW_none,errW_some] <;> rfl) | (simp [*,errW_none,errW_some] <;> rfl),uH HB.out⟩
/-- THE ONE PURE STATEMENT of laws_FnExactMergeRules: yours. -/
def laws_FnExactMergeRules.Pure : Prop:=∀ (a0_0 : Int) (l0_1 : List Int) (l0_2 : List Int) (a1_0 : Int) (l1_1 : List Int) (l1_2 : List Int) (a2 : Int),(Lit.int .i64 a0_0).wf = true → l0_1.length ≤ maxLen → (∀ x ∈ l0_1,(Lit.int .i64 x).wf = true) → l0_2.length ≤ maxLen → (∀ x ∈ l0_2,(Lit.int .i64 x).wf = true) → (Lit.int .i64 a1_0).wf = true → l1_1.length ≤ maxLen → (∀ x ∈ l1_1,(Lit.int .i64 x).wf = true) → l1_2.length ≤ maxLen → (∀ x ∈ l1_2,(Lit.int .i64 x).wf = true) → (Lit.int .i64 a2).wf = true → ∃ k,laws_FnExactMergeRules.f k a0_0 l0_1 l0_2 a1_0 l1_1 l1_2 a2 = some true
theorem laws_FnExactMergeRules.walk (P : laws_FnExactMergeRules.Pure) (a0_0 : Int) (a0_1 : Option Addr) (len0_1 cap0_1 : Nat) (z0_1 : List Int) (a0_2 : Option Addr) (len0_2 cap0_2 : Nat) (z0_2 : List Int) (a1_0 : Int) (a1_1 : Option Addr) (len1_1 cap1_1 : Nat) (z1_1 : List Int) (a1_2 : Option Addr) (len1_2 cap1_2 : Nat) (z1_2 : List Int) (a2 : Int) (w : World) (w0_0 : (Lit.int .i64 a0_0).wf = true) (w0_1 : (a0_1 = none∧len0_1 = 0∧cap0_1 = 0∧z0_1 = []) ∨ ∃ x,a0_1 = some x∧len0_1 ≤ cap0_1∧cap0_1 ≤ maxLen∧z0_1.length = cap0_1∧(∀ i,i < z0_1.length → w.cell? (x.add i) = some (.int .i64 (z0_1.getD i 0)))∧∀ n ∈ z0_1,(Lit.int .i64 n).wf = true) (w0_2 : (a0_2 = none∧len0_2 = 0∧cap0_2 = 0∧z0_2 = []) ∨ ∃ x,a0_2 = some x∧len0_2 ≤ cap0_2∧cap0_2 ≤ maxLen∧z0_2.length = cap0_2∧(∀ i,i < z0_2.length → w.cell? (x.add i) = some (.int .i64 (z0_2.getD i 0)))∧∀ n ∈ z0_2,(Lit.int .i64 n).wf = true) (w1_0 : (Lit.int .i64 a1_0).wf = true) (w1_1 : (a1_1 = none∧len1_1 = 0∧cap1_1 = 0∧z1_1 = []) ∨ ∃ x,a1_1 = some x∧len1_1 ≤ cap1_1∧cap1_1 ≤ maxLen∧z1_1.length = cap1_1∧(∀ i,i < z1_1.length → w.cell? (x.add i) = some (.int .i64 (z1_1.getD i 0)))∧∀ n ∈ z1_1,(Lit.int .i64 n).wf = true) (w1_2 : (a1_2 = none∧len1_2 = 0∧cap1_2 = 0∧z1_2 = []) ∨ ∃ x,a1_2 = some x∧len1_2 ≤ cap1_2∧cap1_2 ≤ maxLen∧z1_2.length = cap1_2∧(∀ i,i < z1_2.length → w.cell? (x.add i) = some (.int .i64 (z1_2.getD i 0)))∧∀ n ∈ z1_2,(Lit.int .i64 n).wf = true) (w2 : (Lit.int .i64 a2).wf = true) :
  Calls Try.prog 5 #[.agg #[.int .i64 a0_0,.slice a0_1 len0_1 cap0_1,.slice a0_2 len0_2 cap0_2],.agg #[.int .i64 a1_0,.slice a1_1 len1_1 cap1_1,.slice a1_2 len1_2 cap1_2],.int .i64 a2] w fun e w'=>e = .returned (.bool true)∧Below w.heap.size w w':=by
 obtain ⟨l0_1,rfl,hr0_1,hm0_1,hw0_1,hc0_1⟩:=ReadsInt.ofRowC w0_1
 obtain ⟨l0_2,rfl,hr0_2,hm0_2,hw0_2,hc0_2⟩:=ReadsInt.ofRowC w0_2
 obtain ⟨l1_1,rfl,hr1_1,hm1_1,hw1_1,hc1_1⟩:=ReadsInt.ofRowC w1_1
 obtain ⟨l1_2,rfl,hr1_2,hm1_2,hw1_2,hc1_2⟩:=ReadsInt.ofRowC w1_2
 obtain ⟨k,h⟩:=P a0_0 l0_1 l0_2 a1_0 l1_1 l1_2 a2 w0_0 hm0_1 hw0_1 hm0_2 hw0_2 w1_0 hm1_1 hw1_1 hm1_2 hw1_2 w2
 refine (laws_FnExactMergeRules.calls k a0_0 _ _ l0_1 _ _ l0_2 a1_0 _ _ l1_1 _ _ l1_2 a2 true rfl w (Kd.C_of_reads (d:=(0 : Int)) (h1:=fun _=>rfl) hr0_1) hc0_1 (Kd.C_of_reads (d:=(0 : Int)) (h1:=fun _=>rfl) hr0_2) hc0_2 (Kd.C_of_reads (d:=(0 : Int)) (h1:=fun _=>rfl) hr1_1) hc1_1 (Kd.C_of_reads (d:=(0 : Int)) (h1:=fun _=>rfl) hr1_2) hc1_2 h).mono ?_
 rintro e w' ⟨rfl,hd⟩
 exact ⟨rfl,hd⟩

end Go.Proofs.Ytjdannndpfkadaa.Pr
