/- SumOfExpansion: for all arguments the program and the reference come to one value; no condition. -/
import Derived.Test.YtnpepkpogohcmaaKtExpansions5
import Derived.Test.YtnpepkpogohcmaaKtExpansions3
import Derived.Test.YtnpepkpogohcmaaKFimplSumOfExpansion
namespace Go.Proofs.Ytnpepkpogohcmaa.Pr
open Go.RowKit Go.Proofs.YtnpepkpogohcmaaW.PrintWords Go.Proofs.YtnpepkpogohcmaaW.PrintLast Go.Proofs.YtnpepkpogohcmaaW.PrintMore

theorem GL {p : Int} (hp : Pm p) (l : List Int) (hl : Sm l.length) (d : Nat) : ∀ i,i + d = l.length → Ev (fun n=>dW.l0 n p l (i : Int)) (decide (Nm p (l.drop i))):=by
  have ew : wrap64 (p - 1) = p - 1:=by have:=hp.two;have:=hp.top;exact df (by omega) (by omega)
  induction d with
  | zero =>
    intro i hi
    refine Ev.step (fun n=>by rw [dW.l0]) ?_
    refine Ev.neg (by omega) (Ev.mI ?_)
    rw [List.drop_of_length_le (by omega),decide_eq_true (Nm.nil p)]
  | succ d ih =>
    intro i hi
    have hs:=hl
    unfold Sm at hs
    refine Ev.step (fun n=>by rw [dW.l0]) ?_
    rw [kW,ew]
    refine Ev.pos (by omega) (Ev.pos (by omega) (Ev.jl (UV _ _ _) ?_))
    by_cases h : 0 ≤ l.getD i 0∧l.getD i 0 ≤ p - 1
    · refine Ev.pos (decide_eq_true h) ?_
      rw [kS (i:=i) (n:=l.length) (by omega) (by omega)]
      have e : decide (Nm p (l.drop i)) = decide (Nm p (l.drop (i + 1))):=by
        congr 1
        rw [yV (by omega)]
        exact propext ⟨fun g=>g.2,fun g=>⟨⟨h.1,by omega⟩,g⟩⟩
      rw [e]
      exact ih (i + 1) (by omega)
    · refine Ev.neg (by simpa using h) (Ev.mI ?_)
      rw [eq_comm,decide_eq_false_iff_not,yV (by omega)]
      intro g
      exact h ⟨g.1.1,by omega⟩
theorem zV {p : Int} (hp : Pm p) (l : List Int) (hl : Sm l.length) : Ev (fun n=>dW.f n p l) (decide (Nm p l)):=by
  unfold dW.f
  exact GL hp l hl l.length 0 (by omega)
theorem Mc {p : Int} (hp : Pm p) (l : List Int) (c : List Int) (nc : Nm p c) (m : Nat) (hm : c.length = m + 1) (hs : c.length ≤ 1000) (d : Nat) : ∀ i,i + d = c.length →
    Ev (fun n=>aN.l0 n c (xS p (mP p l) (fun k=>c.getD k 0) i) (rD p l m) (i : Int) p l) (xS p (mP p l) (fun k=>c.getD k 0) c.length,0):=by
  induction d with
  | zero =>
    intro i hi
    refine Ev.step (fun n=>by rw [aN.l0]) ?_
    refine Ev.neg (by omega) (Ev.mI ?_)
    rw [show i = c.length by omega]
  | succ d ih =>
    intro i hi
    have h1:=yU hp l i
    have h2:=Ct (p:=p) (mP p l) (fun k=>c.getD k 0) (yU hp l) i
    have hc:=nc.get (i:=i) (by omega)
    refine Ev.step (fun n=>by rw [aN.l0]) ?_
    rw [vK,kW,sH p l (by omega),uT,kS (i:=i) (n:=1000) (by omega) (by omega)]
    refine Ev.pos (by omega) (Ev.pos (by omega) (Ev.pos (by omega) (Ev.bind (BL hp hc _ _ (Cu hp _ _ _) (GI hp l i) (by unfold Sm;omega) (by unfold Sm;omega)) ?_)))
    exact ih (i + 1) (by omega)
theorem xw (p : Int) (l c : List Int) (hl : Sm l.length) (hcl : Sm c.length) : ∃ v : List Int × Int,Ev (fun k=>aN.f k p l c) v∧Ev (fun k=>bE.f k p l c) v∧Sm v.1.length∧(oI p l = true∧(c.length ≤ 12∧Nm p c)∧Tn p l c.length → v = (xS p (mP p l) (fun k=>c.getD k 0) c.length,0))∧(¬ (oI p l = true∧(c.length ≤ 12∧Nm p c)∧Tn p l c.length) → v.2 ≠ 0):=by
  have hc:=zW p l hl (decide (c.length ≤ 12∧Nm p c)) [] (by simp [Sm]) (fun l h=>by cases h)
  have hs:=BP p l hl
  have hcl':=hcl
  unfold Sm at hcl'
  have h1 : bT.f c p l = some (decide (c.length ≤ 12∧Nm p c)):=by
    unfold bT.f
    by_cases h12 : c.length ≤ 12
    · rw [if_pos (by omega)]
      show (iq.f c (fun z_=>fG.f p z_)).bind (fun t=>some t) = _
      rw [BQ p c (by omega),Option.bind_some]
      simp [h12]
    · rw [if_neg (by omega),decide_eq_false (fun g=>h12 g.1)]
  by_cases h : oI p l = true
  · rw [h] at hc hs
    have hp:=oI.pm h
    have nl:=oI.nm h
    have hlen:=oI.len h
    by_cases hr : c.length ≤ 12∧Nm p c
    · rw [decide_eq_true hr] at hc h1
      have hj0 : ∀ v,Ev (fun k=>aN.j0 k c false p l) v → Ev (fun k=>aN.f k p l c) v:=fun v hv=>by
        unfold aN.f
        refine Ev.bind hs (Ev.pos rfl (Ev.neg (by omega) (Ev.bind (zV hp c hcl) ?_)))
        rw [decide_eq_true hr.2]
        exact hv
      by_cases h0 : c.length = 0
      · have e0 : c = []:=List.length_eq_zero_iff.1 h0
        refine ⟨([],0),hj0 _ ?_,?_,by simp [Sm],fun _=>by subst e0;rfl,fun g=>absurd ⟨h,hr,.inl h0⟩ g⟩
        · refine Ev.step (fun k=>by rw [aN.j0]) (Ev.neg (by decide) (Ev.neg (by omega) (Ev.step (fun k=>by rw [aN.j1]) ?_)))
          exact Ev.jl rfl (Ev.pos (by omega) (Ev.now _))
        · unfold bE.f
          exact Ev.jl h1 (Ev.bind hc (Ev.pos rfl (Ev.pos (by omega) (Ev.now _))))
      · obtain ⟨m,hm⟩ : ∃ m,c.length = m + 1:=⟨c.length - 1,by omega⟩
        have em : wrap64 ((c.length : Int) - 1) = (m : Int):=by rw [EU (by omega) (by omega)];omega
        have hu:=EW hp nl hlen.2 hlen.1 m (by omega)
        have hg:=GJ hp nl hlen.2 m (by omega)
        by_cases cc : (m : Int) ≤ En p l∧2 * m ≤ l.length
        · rw [if_pos cc] at hu
          rw [decide_eq_true cc] at hg
          refine ⟨(xS p (mP p l) (fun k=>c.getD k 0) c.length,0),hj0 _ ?_,?_,by have:=Ct (p:=p) (mP p l) (fun k=>c.getD k 0) (yU hp l) c.length;unfold Sm;dsimp only;omega,fun _=>rfl,fun g=>absurd ⟨h,hr,.inr ⟨by omega,by omega⟩⟩ g⟩
          · refine Ev.step (fun k=>by rw [aN.j0]) (Ev.neg (by decide) (Ev.pos (by omega) ?_))
            rw [em]
            refine Ev.bind hg (Ev.pos rfl (Ev.step (fun k=>by rw [aN.j1]) ?_))
            rw [em]
            exact Ev.jl rfl (Ev.neg (by omega) (Ev.bind (Cq hp nl hlen.2 cc.2) (Mc hp l c hr.2 m hm (by omega) c.length 0 (by omega))))
          · unfold bE.f
            refine Ev.jl h1 (Ev.bind hc (Ev.pos rfl (Ev.neg (by omega) (Ev.jl (a:=(c.length : Int)) rfl ?_))))
            rw [em]
            refine Ev.bind hu (Ev.pos rfl (Ev.jl (a:=p) rfl (Ev.bind (Oz hp c hr.2 (mP p l) (yU hp l) (GI hp l) _ (fun i hi=>sH p l (by omega)) (by rw [uT];omega) (by omega)) (Ev.now _))))
        · rw [if_neg cc] at hu
          rw [decide_eq_false cc] at hg
          refine ⟨([],5),hj0 _ ?_,?_,by simp [Sm],fun g=>absurd (g.2.2.elim (fun e=>absurd e h0) (fun e=>⟨by omega,by omega⟩)) cc,fun _=>by decide⟩
          · refine Ev.step (fun k=>by rw [aN.j0]) (Ev.neg (by decide) (Ev.pos (by omega) ?_))
            rw [em]
            exact Ev.bind hg (Ev.neg (by decide) (Ev.now _))
          · unfold bE.f
            refine Ev.jl h1 (Ev.bind hc (Ev.pos rfl (Ev.neg (by omega) (Ev.jl (a:=(c.length : Int)) rfl ?_))))
            rw [em]
            exact Ev.bind hu (Ev.neg (by simp) (Ev.now _))
    · rw [decide_eq_false hr] at hc h1
      refine ⟨([],2),?_,?_,by simp [Sm],fun g=>absurd g.2.1 hr,fun _=>by decide⟩
      · unfold aN.f
        refine Ev.bind hs (Ev.pos rfl ?_)
        by_cases h12 : c.length ≤ 12
        · refine Ev.neg (by omega) (Ev.bind (zV hp c hcl) ?_)
          rw [decide_eq_false (fun g=>hr ⟨h12,g⟩)]
          refine Ev.step (fun k=>by rw [aN.j0]) ?_
          exact Ev.pos rfl (Ev.now _)
        · refine Ev.pos (by omega) (Ev.step (fun k=>by rw [aN.j0]) ?_)
          exact Ev.pos rfl (Ev.now _)
      · unfold bE.f
        exact Ev.jl h1 (Ev.bind hc (Ev.neg (by simp) (Ev.now _)))
  · rw [Bool.eq_false_iff.2 h] at hc hs
    refine ⟨([],1),?_,?_,by simp [Sm],fun g=>absurd g.1 h,fun _=>by decide⟩
    · unfold aN.f
      exact Ev.bind hs (Ev.neg (by decide) (Ev.now _))
    · unfold bE.f
      exact Ev.jl h1 (Ev.bind hc (Ev.neg (by simp) (Ev.now _)))
end Go.Proofs.Ytnpepkpogohcmaa.Pr
