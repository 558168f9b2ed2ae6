/- ExpandPolynomial: for all arguments the program and the reference come to one value; no condition. -/
import Derived.Test.YtnpepkpogohcmaaKtExpansions3
import Derived.Test.YtnpepkpogohcmaaKtExpansions5
import Derived.Test.YtnpepkpogohcmaaKFimplExpandPolynomial
namespace Go.Proofs.Ytnpepkpogohcmaa.Pr
open Go.RowKit Go.Proofs.YtnpepkpogohcmaaW.PrintWords Go.Proofs.YtnpepkpogohcmaaW.PrintLast Go.Proofs.YtnpepkpogohcmaaW.PrintMore

section
variable {p : Int} (hp : Pm p) (l : List Int) (m : Nat)
include hp
theorem Pd (d : Nat) : ∀ (f o : List Int),f.length ≤ d → f.length ≤ m + 1 → f.length ≤ o.length → f.length ≤ 1000 → Nm p f →
    Ev (fun n=>cZ.l0 n p f (rD p l m) o) (tF p (mP p l) d f o):=by
  induction d with
  | zero =>
    intro f o h1 h2 h3 h4 hf
    refine Ev.step (fun n=>by rw [cZ.l0]) ?_
    exact Ev.neg (by omega) (Ev.now _)
  | succ d ih =>
    intro f o h1 h2 h3 h4 hf
    refine Ev.step (fun n=>by rw [cZ.l0]) ?_
    rw [tF]
    by_cases h0 : f.length = 0
    · rw [if_pos h0]
      exact Ev.neg (by omega) (Ev.now _)
    · obtain ⟨k,hk⟩ : ∃ k,f.length = k + 1:=⟨f.length - 1,by omega⟩
      have e1 : jY.f f = some ((k : Nat) : Int):=by
        unfold jY.f
        show some (wrap64 ((f.length : Int) - 1)) = _
        rw [EU (by omega) (by omega),hk];rfl
      have hg:=hf.get (i:=k) (by omega)
      have ht:=hp.top
      have hpl:=KD (p:=p) hk (BU hp l k)
      have hmk:=yU hp l k
      rw [if_neg h0,hk,Nat.add_sub_cancel]
      refine Ev.pos (by omega) (Ev.jl e1 ?_)
      rw [kW,jZ,uT,vK,sH p l (by omega)]
      refine Ev.pos (by omega) (Ev.pos (by omega) (Ev.pos (by omega) (Ev.jl rfl (Ev.pos (by omega) ?_))))
      rw [kW,yj (by omega),df (by omega) (by omega)]
      refine Ev.jl (zl hp _) (Ev.bind (BO hp (mi hp.pos _) _ _ hf (GI hp l k) (by unfold Sm;omega) (by unfold Sm;omega)) ?_)
      exact ih _ _ (by omega) (by omega) (by rw [List.length_set];omega) (by omega) (CZ hp.pos hf _)
theorem Pe (d : Nat) : ∀ (f o : List Int),f.length ≤ d → f.length ≤ m + 1 → f.length ≤ o.length → f.length ≤ 1000 → Nm p f →
    Ev (fun n=>aI.l0 n f o (rD p l m) p l) (tF p (mP p l) d f o,0):=by
  induction d with
  | zero =>
    intro f o h1 h2 h3 h4 hf
    refine Ev.step (fun n=>by rw [aI.l0]) ?_
    exact Ev.neg (by omega) (Ev.now _)
  | succ d ih =>
    intro f o h1 h2 h3 h4 hf
    refine Ev.step (fun n=>by rw [aI.l0]) ?_
    rw [tF]
    by_cases h0 : f.length = 0
    · rw [if_pos h0]
      exact Ev.neg (by omega) (Ev.now _)
    · obtain ⟨k,hk⟩ : ∃ k,f.length = k + 1:=⟨f.length - 1,by omega⟩
      have e1 : wrap64 ((f.length : Int) - 1) = ((k : Nat) : Int):=by
        rw [EU (by omega) (by omega),hk];rfl
      have hg:=hf.get (i:=k) (by omega)
      have ht:=hp.top
      have hpl:=KD (p:=p) hk (BU hp l k)
      have hmk:=yU hp l k
      rw [if_neg h0,e1,kW,jZ,uT,vK,sH p l (by omega),df (by omega) (by omega)]
      refine Ev.pos (by omega) (Ev.pos (by omega) (Ev.pos (by omega) (Ev.pos (by omega) (Ev.pos (by omega) (Ev.jl (Co hp _) (Ev.bind (BL hp (mi hp.pos _) _ _ hf (GI hp l k) (by unfold Sm;omega) (by unfold Sm;omega)) ?_))))))
      rw [hk,Nat.add_sub_cancel]
      exact ih _ _ (by omega) (by omega) (by rw [List.length_set];omega) (by omega) (CZ hp.pos hf _)
end
theorem CU (p : Int) (P : Nat → List Int) (d : Nat) : ∀ f o : List Int,(tF p P d f o).length = o.length:=by
  induction d with
  | zero=>intro f o;rfl
  | succ d ih =>
    intro f o
    rw [tF]
    split
    · rfl
    · rw [ih,List.length_set]
theorem vV (p : Int) (l c : List Int) (hl : Sm l.length) (hcl : Sm c.length) : ∃ v : List Int × Int,Ev (fun k=>aI.f k p l c) v∧Ev (fun k=>bu.f k p l c) v∧Sm v.1.length∧((oI p l && nU p c) = true∧c.length ≤ 12∧Tn p l c.length → v = (tF p (mP p l) c.length c (List.replicate c.length 0),0))∧(¬ ((oI p l && nU p c) = true∧c.length ≤ 12∧Tn p l c.length) → v.2 ≠ 0∧v.1 = []):=by
  have hcl':=hcl
  unfold Sm at hcl'
  have hc:=zW p l hl (decide (c.length ≤ 12)) [c] (by simp [Sm]) (fun l h=>by simp at h;rw [h];exact hcl)
  rw [List.all_cons,List.all_nil,Bool.and_true] at hc
  have hs:=BP p l hl
  have hw : wrap64 ((c.length : Int) - 1) = (c.length : Int) - 1:=df (by omega) (by omega)
  have hdeg : jY.f c = some ((c.length : Int) - 1):=by
    unfold jY.f
    show some (wrap64 ((c.length : Int) - 1)) = _
    rw [hw]
  have h1 : gK.f c = some (decide (c.length ≤ 12)):=by
    unfold gK.f
    rw [hdeg,Option.bind_some]
    congr 1
    rw [decide_eq_decide]
    omega
  have bad : (oI p l && nU p c) = false → Ev (fun k=>aI.f k p l c) ([],1):=fun hb=>by
    unfold aI.f
    refine Ev.bind hs ?_
    by_cases h : oI p l = true
    · rw [h,Bool.true_and] at hb
      refine Ev.pos h (Ev.bind (Fg p c hcl) ?_)
      rw [hb]
      refine Ev.step (fun k=>by rw [aI.j0]) ?_
      exact Ev.pos rfl (Ev.now _)
    · refine Ev.neg h (Ev.step (fun k=>by rw [aI.j0]) ?_)
      exact Ev.pos rfl (Ev.now _)
  by_cases hb : (oI p l && nU p c) = true
  · rw [hb] at hc
    rw [Bool.and_eq_true] at hb
    obtain ⟨h,hpb⟩:=hb
    rw [h] at hs
    have hp:=oI.pm h
    have nl:=oI.nm h
    have hlen:=oI.len h
    have nc : Nm p c:=by
      have:=hpb
      unfold nU at this
      rw [Bool.and_eq_true,decide_eq_true_eq] at this
      exact this.1
    have hj0 : ∀ v,Ev (fun k=>aI.j0 k c false p l) v → Ev (fun k=>aI.f k p l c) v:=fun v hv=>by
      unfold aI.f
      refine Ev.bind hs (Ev.pos rfl (Ev.bind (Fg p c hcl) ?_))
      rw [hpb]
      exact hv
    by_cases hr : c.length ≤ 12
    · rw [decide_eq_true hr] at hc h1
      by_cases h0 : c.length = 0
      · have e0 : c = []:=List.length_eq_zero_iff.1 h0
        refine ⟨([],0),hj0 _ ?_,?_,by simp [Sm],fun _=>by subst e0;rfl,fun g=>absurd ⟨by rw [h,hpb];rfl,hr,.inl h0⟩ g⟩
        · refine Ev.step (fun k=>by rw [aI.j0]) (Ev.neg (by decide) (Ev.neg (by omega) (Ev.neg (by omega) (Ev.step (fun k=>by rw [aI.j1]) ?_))))
          rw [h0]
          exact Ev.pos (by decide) (Ev.pos (by decide) (Ev.jl rfl (Ev.pos rfl (Ev.now _))))
        · unfold bu.f
          exact Ev.jl h1 (Ev.bind hc (Ev.pos rfl (Ev.pos (by omega) (Ev.now _))))
      · obtain ⟨m,hm⟩ : ∃ m,c.length = m + 1:=⟨c.length - 1,by omega⟩
        have em : (c.length : Int) - 1 = (m : Int):=by omega
        rw [em] at hw hdeg
        have hw2 : wrap64 ((c.length : Int) - 1) = (m : Int):=by rw [em];exact hw
        have hu:=EW hp nl hlen.2 hlen.1 m (by omega)
        have hg:=GJ hp nl hlen.2 m (by omega)
        by_cases cc : (m : Int) ≤ En p l∧2 * m ≤ l.length
        · rw [if_pos cc] at hu
          rw [decide_eq_true cc] at hg
          refine ⟨(tF p (mP p l) c.length c (List.replicate c.length 0),0),hj0 _ ?_,?_,by rw [CU,List.length_replicate];unfold Sm;omega,fun _=>rfl,fun g=>absurd ⟨by rw [h,hpb];rfl,hr,.inr ⟨by omega,by omega⟩⟩ g⟩
          · refine Ev.step (fun k=>by rw [aI.j0]) (Ev.neg (by decide) (Ev.neg (by omega) (Ev.pos (by omega) ?_)))
            rw [hw2]
            refine Ev.bind hg (Ev.pos rfl (Ev.step (fun k=>by rw [aI.j1]) ?_))
            rw [hw2,jZ]
            exact Ev.pos (by omega) (Ev.pos (by omega) (Ev.jl rfl (Ev.neg (by omega) (Ev.bind (Cq hp nl hlen.2 cc.2) (Pe hp l m c.length c _ (by omega) (by omega) (by simp) (by omega) nc)))))
          · unfold bu.f
            refine Ev.jl h1 (Ev.bind hc (Ev.pos rfl (Ev.neg (by omega) (Ev.jl hdeg (Ev.bind hu (Ev.pos rfl (Ev.jl (a:=p) rfl (Ev.bind ?_ (Ev.now _)))))))))
            unfold cZ.f
            rw [jZ]
            exact Ev.pos (by omega) (Ev.pos (by omega) (Pd hp l m c.length c _ (by omega) (by omega) (by simp) (by omega) nc))
        · rw [if_neg cc] at hu
          rw [decide_eq_false cc] at hg
          refine ⟨([],5),hj0 _ ?_,?_,by simp [Sm],fun g=>absurd (g.2.2.elim (fun e=>absurd e h0) (fun e=>⟨by omega,by omega⟩)) cc,fun _=>⟨by decide,rfl⟩⟩
          · refine Ev.step (fun k=>by rw [aI.j0]) (Ev.neg (by decide) (Ev.neg (by omega) (Ev.pos (by omega) ?_)))
            rw [hw2]
            exact Ev.bind hg (Ev.neg (by decide) (Ev.now _))
          · unfold bu.f
            exact Ev.jl h1 (Ev.bind hc (Ev.pos rfl (Ev.neg (by omega) (Ev.jl hdeg (Ev.bind hu (Ev.neg (by simp) (Ev.now _)))))))
    · rw [decide_eq_false hr] at hc h1
      refine ⟨([],2),hj0 _ ?_,?_,by simp [Sm],fun g=>absurd g.2.1 hr,fun _=>⟨by decide,rfl⟩⟩
      · exact Ev.step (fun k=>by rw [aI.j0]) (Ev.neg (by decide) (Ev.pos (by omega) (Ev.now _)))
      · unfold bu.f
        exact Ev.jl h1 (Ev.bind hc (Ev.neg (by simp) (Ev.now _)))
  · rw [Bool.eq_false_iff.2 hb] at hc
    refine ⟨([],1),bad (Bool.eq_false_iff.2 hb),?_,by simp [Sm],fun g=>absurd g.1 hb,fun _=>⟨by decide,rfl⟩⟩
    unfold bu.f
    exact Ev.jl h1 (Ev.bind hc (Ev.neg (by simp) (Ev.now _)))
end Go.Proofs.Ytnpepkpogohcmaa.Pr
