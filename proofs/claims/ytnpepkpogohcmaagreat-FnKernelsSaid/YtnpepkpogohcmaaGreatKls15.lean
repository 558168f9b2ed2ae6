/- Texts of this session in one: what functions of the program compute, and plain facts of it, under the conditions that each theorem names. -/
import Derived.Test.YtnpepkpogohcmaaGreatKls11
import Derived.Test.YtnpepkpogohcmaaGreatKls13
import Derived.Test.YtnpepkpogohcmaaGreatKls14
import Derived.Test.YtnpepkpogohcmaaGreatKls8
namespace Go.Proofs.YtnpepkpogohcmaaGreat.Pr
/- The kernel of a number: the program's and the reference's come to one list; no condition. -/
open Go.RowKit Go.Proofs.YtnpepkpogohcmaaGreatW.PrintWords Go.Proofs.YtnpepkpogohcmaaGreatW.PrintLast Go.Proofs.YtnpepkpogohcmaaGreatW.PrintMore
theorem RS {p : Int} {P : Nat → List Int} {c e : Nat → Int} (k : Nat) (h : ∀ i,i < k → c i = e i) : xc p P c k = xc p P e k:=by
  induction k with
  | zero=>rfl
  | succ k ih=>rw [xc,xc,ih (fun i hi=>h i (by omega)),h k (by omega)]
def KG (p : Int) (l : List Int) (a : Int) (i : Nat) : List Int:=(List.range i).map (Jw p l a)
theorem BD (p : Int) (l : List Int) (a : Int) (i : Nat) : (KG p l a i).length = i:=by simp [KG]
theorem YT (p : Int) (l : List Int) (a : Int) {i j : Nat} (h : j < i) : (KG p l a i).getD j 0 = Jw p l a j:=by
  rw [KG,List.getD_eq_getElem?_getD,List.getElem?_map,List.getElem?_range h];rfl
theorem WW (p : Int) (l : List Int) (a : Int) (i : Nat) : KG p l a (i + 1) = KG p l a i ++ [Jw p l a i]:=by unfold KG;rw [List.range_succ,List.map_append,List.map_singleton]
theorem adt {p : Int} (hp : Pm p) (l : List Int) (a : Int) (i : Nat) : Nm p (KG p l a i):=fun x hx=>by
  obtain ⟨j,_,rfl⟩:=List.mem_map.1 hx
  exact Ux hp l a j
/-- What the reference's kernel comes to, for good moments and ranges. -/
def Df (p : Int) (l : List Int) (n : Nat) (a : Int) : List Int × Int:=if (n : Int) + 1 ≤ vD p l then (xK p l n a,0) else ([],5)
section
variable {p : Int} (hp : Pm p) {l : List Int} (nl : Nm p l) (hl : l.length ≤ 24) {a : Int} (ha : 0 ≤ a∧a < p) {n : Nat} (hn : n ≤ 11)
include hp nl hl ha hn
theorem RU (h2 : 2 * n + 1 ≤ l.length) (d : Nat) : ∀ i : Nat,i + d = n + 1 → Ev (fun k=>bK.l0 k (n : Int) a (xc p (mP p l) (Jw p l a) i) p (rJ p l n) (i : Int) p l) (xK p l n a,0):=by
  induction d with
  | zero =>
    intro i hi
    obtain rfl : i = n + 1:=by omega
    refine Ev.step (fun k=>by rw [bK.l0]) ?_
    exact Ev.neg (by omega) (Ev.now _)
  | succ d ih =>
    intro i hi
    have ho:=Ed hp l i
    have hol:=sP hp l i
    have hsl:=Jy (p:=p) (mP p l) (Jw p l a) (sP hp l) i
    have hn0:=qI hp l (mP p l i) 0
    have hiv:=Et hp (kN p l (mP p l i) 0)
    have hv:=vR hp a (mP p l i)
    have hm:=yO hp hv.1 hv.2 hiv.1 hiv.2
    have e1 : Int.tmod (wrap64 (xJ p a (mP p l i) * qA p (kN p l (mP p l i) 0))) p = Jw p l a i:=by
      rw [bJ (by omega) (by omega),jY hm.1];rfl
    clear hm
    refine Ev.step (fun k=>by rw [bK.l0]) ?_
    rw [uF,rM p l (show i ≤ n by omega),rO,lC (i:=i) (n:=1000) (by omega) (by omega)]
    refine Ev.pos (by omega) (Ev.pos (by omega) (Ev.pos (by omega) (Ev.bind (Lc hp ha _ ho (by unfold Sm;omega)) (Ev.bind (BF hp nl hl ho 0 (by omega)) (Ev.bind (zN hp hn0) (Ev.neg hp.ne ?_))))))
    rw [e1]
    refine Ev.bind (Jz hp (Ux hp l a i) _ _ (Ez hp _ _ _) ho (by unfold Sm;omega) (by unfold Sm;omega)) ?_
    exact ih (i + 1) (by omega)
theorem RV (h2 : 2 * n + 1 ≤ l.length) (al be ns : List Int) (d : Nat) : ∀ i : Nat,i + d = n + 1 →
    Ev (fun k=>aY.l0 k a p (KG p l a i) (rJ p l n) ((n : Int) + 1) (i : Int) p l (rJ p l n) ns p al be) (xK p l n a,true):=by
  induction d with
  | zero =>
    intro i hi
    obtain rfl : i = n + 1:=by omega
    refine Ev.step (fun k=>by rw [aY.l0]) ?_
    refine Ev.neg (by omega) (Ev.bind (RX hp (KG p l a (n + 1)) (adt hp l a _) (mP p l) (sP hp l) (Ed hp l) (rJ p l n) (fun j hj=>rM p l (by rw [BD] at hj;omega)) (by rw [BD,rO];omega) (by rw [BD];omega)) (Ev.oh ?_))
    rw [BD,xK,RS (n + 1) (fun j hj=>YT p l a hj)]
  | succ d ih =>
    intro i hi
    have ho:=Ed hp l i
    have hol:=sP hp l i
    have hn0:=qI hp l (mP p l i) 0
    have hv:=vR hp a (mP p l i)
    refine Ev.step (fun k=>by rw [aY.l0]) ?_
    rw [uF,rM p l (show i ≤ n by omega),rO,lC (i:=i) (n:=1000) (by omega) (by omega),BD]
    refine Ev.pos (by omega) (Ev.pos (by omega) (Ev.pos (by omega) (Ev.iN (zT hp ha _ ho (by unfold Sm;omega)) (Ev.bind (vG hp _ _ ho ho (by unfold Sm;omega) (by unfold Sm;omega) (by unfold Sm;omega)) (Ev.bind (zU hp nl hl (by omega)) (Ev.bind (zV hp hv hn0) (Ev.pos (by omega) ?_)))))))
    have:=ih (i + 1) (by omega)
    rw [WW] at this
    exact this
theorem RY (h1 : 1 ≤ l.length) : Ev (fun k=>aY.f k p l (n : Int) a) (if (n : Int) + 1 ≤ vD p l then (xK p l n a,true) else ([],false)):=by
  obtain ⟨m,hm,hm2⟩:=Bn p l
  have hu:=BG hp nl hl h1 n (by omega)
  have ew : wrap64 ((n : Int) + 1) = (n : Int) + 1:=bJ (by omega) (by omega)
  unfold aY.f
  by_cases c : (n : Int) + 1 ≤ vD p l
  · rw [if_pos ⟨by omega,by omega⟩] at hu
    rw [if_pos c]
    refine Ev.bind hu (Ev.pos rfl (Ev.bind (DT hp nl hl) ?_))
    rw [ew,decide_eq_false (by omega)]
    refine Ev.step (fun k=>by rw [aY.j0]) ?_
    refine Ev.neg (by decide) (Ev.iN (a:=p) rfl ?_)
    rw [rO,show (((n + 1 : Nat) : Int)) = (n : Int) + 1 from by omega]
    exact RV hp nl hl ha hn (by omega) _ _ _ (n + 1) 0 (by omega)
  · rw [if_neg c]
    by_cases c2 : (n : Int) ≤ vD p l∧2 * n ≤ l.length
    · rw [if_pos c2] at hu
      refine Ev.bind hu (Ev.pos rfl (Ev.bind (DT hp nl hl) ?_))
      rw [ew,decide_eq_true (by omega)]
      refine Ev.step (fun k=>by rw [aY.j0]) ?_
      exact Ev.pos rfl (Ev.now _)
    · rw [if_neg c2] at hu
      refine Ev.bind hu (Ev.neg (by simp) (Ev.step (fun k=>by rw [aY.j0]) ?_))
      exact Ev.pos rfl (Ev.now _)
end
/-- What the ranges of a kernel ask. -/
def yP (p n a : Int) : Prop:=(0 ≤ n∧n ≤ 11)∧(0 ≤ a∧a < p)
instance (p n a : Int) : Decidable (yP p n a):=by unfold yP;infer_instance
theorem yS (p : Int) (l : List Int) (hl : Sm l.length) (n a : Int) : Ev (fun k=>bK.f k p l n a) (if kS p l = true then (if yP p n a then Df p l n.toNat a else ([],2)) else ([],1)):=by
  unfold bK.f
  refine Ev.bind (zW p l hl) ?_
  by_cases h : kS p l = true
  · rw [if_pos h]
    have hp:=kS.pm h
    have nl:=kS.nm h
    have hlen:=kS.len h
    have hw : wrap64 (p - 1) = p - 1:=by have:=hp.two;have:=hp.top;exact bJ (by omega) (by omega)
    rw [hw]
    refine Ev.pos h (Ev.iN (Pp _ _ _) ?_)
    by_cases hn : 0 ≤ n∧n ≤ 11
    · obtain ⟨k,rfl⟩:=Int.eq_ofNat_of_zero_le hn.1
      refine Ev.pos (decide_eq_true hn) (Ev.iN (Pp _ _ _) ?_)
      by_cases ha : 0 ≤ a∧a ≤ p - 1
      · rw [if_pos ⟨hn,ha.1,by omega⟩,decide_eq_true ha,jI]
        refine Ev.step (fun k=>by rw [bK.j0]) ?_
        refine Ev.neg (by decide) (Ev.bind (JA hp nl hlen.2) ?_)
        obtain ⟨m,hm,hm2⟩:=Bn p l
        have ew : wrap64 ((k : Int) + 1) = (k : Int) + 1:=bJ (by omega) (by omega)
        rw [ew]
        unfold Df
        by_cases c : (k : Int) + 1 ≤ vD p l
        · rw [if_pos c]
          exact Ev.neg (by omega) (Ev.bind (Nq hp nl hlen.2 (k:=k) (by omega)) (RU hp nl hlen.2 ⟨ha.1,by omega⟩ (by omega) (by omega) (k + 1) 0 (by omega)))
        · rw [if_neg c]
          exact Ev.pos (by omega) (Ev.now _)
      · rw [if_neg (fun g=>ha ⟨g.2.1,by have:=g.2.2;omega⟩),decide_eq_false ha]
        refine Ev.step (fun k=>by rw [bK.j0]) ?_
        exact Ev.pos rfl (Ev.now _)
    · rw [if_neg (fun g=>hn g.1)]
      refine Ev.neg (by simpa using hn) (Ev.step (fun k=>by rw [bK.j0]) ?_)
      exact Ev.pos rfl (Ev.now _)
  · rw [if_neg h]
    exact Ev.neg h (Ev.now _)
theorem wO (p : Int) (l : List Int) (hl : Sm l.length) (n a : Int) (b : Bool) (ls : List (List Int)) (hs : Sm ls.length) (hls : ∀ l ∈ ls,Sm l.length) :
    Ev (fun k=>jr.f k p l n a b ls) (if (kS p l && ls.all (qb p)) = true then (if yP p n a∧b = true then Df p l n.toNat a else ([],2)) else ([],1)):=by
  have h1 : dY.f n p l a b = some (decide (yP p n a∧b = true)):=by
    unfold dY.f
    rw [Cq,Option.bind_some]
    by_cases hn : 0 ≤ n∧n ≤ 11
    · rw [if_pos (decide_eq_true hn)]
      show (dK.f p a).bind _ = _
      rw [has_eq,Option.bind_some]
      by_cases ha : 0 ≤ a∧a < p
      · rw [if_pos (decide_eq_true ha)]
        cases b
        · rw [decide_eq_false (fun g=>by cases g.2)]
        · rw [decide_eq_true ⟨⟨hn,ha⟩,rfl⟩]
      · rw [if_neg (by simpa using ha),decide_eq_false (fun g=>ha g.1.2)]
    · rw [if_neg (by simpa using hn),decide_eq_false (fun g=>hn g.1.1)]
  have hc:=xS p l hl (decide (yP p n a∧b = true)) ls hs hls
  unfold jr.f
  refine Ev.iN h1 (Ev.bind hc ?_)
  by_cases h : (kS p l && ls.all (qb p)) = true
  · rw [if_pos h,if_pos h]
    rw [Bool.and_eq_true] at h
    have hp:=kS.pm h.1
    have nl:=kS.nm h.1
    have hlen:=kS.len h.1
    by_cases hr : yP p n a∧b = true
    · rw [if_pos hr,if_pos (decide_eq_true hr)]
      obtain ⟨k,rfl⟩:=Int.eq_ofNat_of_zero_le hr.1.1.1
      have h11:=hr.1.1.2
      refine Ev.pos rfl (Ev.bind (RY hp nl hlen.2 hr.1.2 (show k ≤ 11 by omega) hlen.1) ?_)
      rw [jI]
      unfold Df
      by_cases c : (k : Int) + 1 ≤ vD p l
      · rw [if_pos c,if_pos c]
        exact Ev.pos rfl (Ev.now _)
      · rw [if_neg c,if_neg c]
        exact Ev.neg (by simp) (Ev.now _)
    · rw [if_neg hr,if_neg (by simpa using hr)]
      exact Ev.neg (by decide) (Ev.now _)
  · rw [if_neg h,if_neg h]
    exact Ev.neg (by decide) (Ev.now _)
theorem Ld (p : Int) (l : List Int) (n : Nat) (a : Int) : (Df p l n a).2 = 0∧(n : Int) + 1 ≤ vD p l∧(Df p l n a).1 = xK p l n a ∨ (Df p l n a).2 = 5:=by
  unfold Df
  by_cases c : (n : Int) + 1 ≤ vD p l
  · rw [if_pos c];exact .inl ⟨rfl,c,rfl⟩
  · rw [if_neg c];exact .inr rfl
/- KernelAt: for all arguments the program and the reference come to one value; no condition. -/
theorem adu {p : Int} {l : List Int} {n : Nat} {a : Int} (h5 : (Df p l n a).2 = 5) : ¬ ((n : Int) + 1 ≤ vD p l):=fun g=>by
  unfold Df at h5
  rw [if_pos g] at h5
  have h6 : (0 : Int) = 5:=h5
  omega
theorem Eb (p : Int) (l : List Int) (n a b : Int) (hl : Sm l.length) : ∃ v : Int × Int,Ev (fun k=>fI.f k p l n a b) v∧Ev (fun k=>jP.f k p l n a b) v ∧
    (kS p l = true∧yP p n a∧n + 1 ≤ vD p l∧(0 ≤ b∧b < p) → v = (xJ p b (xK p l n.toNat a),0))∧(¬ (kS p l = true∧yP p n a∧n + 1 ≤ vD p l∧(0 ≤ b∧b < p)) → v.1 = 0∧v.2 ≠ 0):=by
  have hc:=wO p l hl n a (decide (0 ≤ b∧b < p)) [] (by simp [Sm]) (fun l h=>by cases h)
  have hs:=yS p l hl n a
  rw [List.all_nil,Bool.and_true] at hc
  have h1 : lG.f p l b = some (decide (0 ≤ b∧b < p)):=by
    unfold lG.f
    show (dK.f p b).bind _ = _
    rw [has_eq];rfl
  by_cases h : kS p l = true
  · rw [if_pos h] at hc hs
    have hp:=kS.pm h
    have nl:=kS.nm h
    have hlen:=kS.len h
    have hw : wrap64 (p - 1) = p - 1:=by have:=hp.two;have:=hp.top;exact bJ (by omega) (by omega)
    have ein : jL.f b 0 (wrap64 (p - 1)) = some (decide (0 ≤ b∧b < p)):=by
      rw [hw,Pp]
      congr 1
      rw [decide_eq_decide]
      omega
    by_cases hr : yP p n a
    · rw [if_pos hr] at hs
      have hcode:=Ld p l n.toNat a
      obtain ⟨k,rfl⟩:=Int.eq_ofNat_of_zero_le hr.1.1
      rw [jI] at hs hcode hc
      by_cases hb : 0 ≤ b∧b < p
      · rw [decide_eq_true hb] at hc h1 ein
        rw [if_pos ⟨hr,rfl⟩] at hc
        have h11:=hr.1.2
        have hkl:=y9 hp l k a
        rcases hcode with ⟨h0,c,hk⟩ | h5
        · refine ⟨(xJ p b (xK p l k a),0),?_,?_,fun _=>rfl,fun g=>absurd ⟨h,hr,c,hb⟩ g⟩
          · unfold fI.f
            refine Ev.bind hs ?_
            rw [h0,hk]
            refine Ev.neg (by decide) (Ev.iN ein (Ev.step (fun k=>by rw [fI.j0]) ?_))
            exact Ev.neg (by decide) (Ev.pos rfl (Ev.bind (Lc hp hb _ (Nr hp l k a) (by unfold Sm;omega)) (Ev.now _)))
          · unfold jP.f
            refine Ev.iN h1 (Ev.bind hc ?_)
            rw [h0,hk]
            exact Ev.pos rfl (Ev.iN (a:=p) rfl (Ev.iN (zT hp hb _ (Nr hp l k a) (by unfold Sm;omega)) (Ev.now _)))
        · refine ⟨(0,5),?_,?_,fun g=>absurd g.2.2.1 (adu h5),fun _=>⟨rfl,by decide⟩⟩
          · unfold fI.f
            refine Ev.bind hs ?_
            rw [h5]
            refine Ev.neg (by decide) (Ev.iN ein (Ev.step (fun k=>by rw [fI.j0]) ?_))
            exact Ev.neg (by decide) (Ev.neg (by decide) (Ev.now _))
          · unfold jP.f
            refine Ev.iN h1 (Ev.bind hc ?_)
            rw [h5]
            exact Ev.neg (by decide) (Ev.now _)
      · rw [decide_eq_false hb] at hc h1 ein
        rw [if_neg (fun g=>by cases g.2)] at hc
        refine ⟨(0,2),?_,?_,fun g=>absurd g.2.2.2 hb,fun _=>⟨rfl,by decide⟩⟩
        · unfold fI.f
          refine Ev.bind hs (Ev.neg (by rcases hcode with ⟨h0,_⟩ | h5 <;> omega) (Ev.iN ein (Ev.step (fun k=>by rw [fI.j0]) ?_)))
          exact Ev.pos rfl (Ev.neg (by decide) (Ev.now _))
        · unfold jP.f
          exact Ev.iN h1 (Ev.bind hc (Ev.neg (by simp) (Ev.now _)))
    · rw [if_neg hr] at hs
      rw [if_neg (fun g=>hr g.1)] at hc
      refine ⟨(0,2),?_,?_,fun g=>absurd g.2.1 hr,fun _=>⟨rfl,by decide⟩⟩
      · unfold fI.f
        refine Ev.bind hs (Ev.neg (by simp) (Ev.iN ein (Ev.step (fun k=>by rw [fI.j0]) ?_)))
        by_cases hb : 0 ≤ b∧b < p
        · rw [decide_eq_true hb]
          exact Ev.neg (by decide) (Ev.neg (by simp) (Ev.now _))
        · rw [decide_eq_false hb]
          exact Ev.pos rfl (Ev.neg (by decide) (Ev.now _))
      · unfold jP.f
        exact Ev.iN h1 (Ev.bind hc (Ev.neg (by simp) (Ev.now _)))
  · rw [if_neg h] at hc hs
    refine ⟨(0,1),?_,?_,fun g=>absurd g.1 h,fun _=>⟨rfl,by decide⟩⟩
    · unfold fI.f
      refine Ev.bind hs (Ev.pos rfl (Ev.step (fun k=>by rw [fI.j0]) ?_))
      exact Ev.neg (by decide) (Ev.neg (by simp) (Ev.now _))
    · unfold jP.f
      exact Ev.iN h1 (Ev.bind hc (Ev.neg (by simp) (Ev.now _)))
/- KernelOf: for all arguments the program and the reference come to one value; no condition. -/
theorem Mo (p : Int) (l : List Int) (n a : Int) (hl : Sm l.length) : ∃ v : List Int × Int,Ev (fun k=>oG.f k p l n a) v∧Ev (fun k=>oF.f k p l n a) v∧Sm v.1.length∧(v.2 = 0 → (v.1.length : Int) ≤ n + 1∧0 ≤ n∧n ≤ 11):=by
  have hc:=wO p l hl n a true [] (by simp [Sm]) (fun l h=>by cases h)
  rw [List.all_nil,Bool.and_true] at hc
  have hc2 : Ev (fun k=>jr.f k p l n a true []) (if kS p l = true then (if yP p n a then Df p l n.toNat a else ([],2)) else ([],1)):=by
    have e : (if yP p n a∧true = true then Df p l n.toNat a else ([],2)) = (if yP p n a then Df p l n.toNat a else ([],2)):=by
      by_cases g : yP p n a
      · rw [if_pos g,if_pos ⟨g,rfl⟩]
      · rw [if_neg g,if_neg (fun h=>g h.1)]
    rw [e] at hc
    exact hc
  refine ⟨if kS p l = true then (if yP p n a then Df p l n.toNat a else ([],2)) else ([],1),?_,?_,?_,?_⟩
  rotate_left
  rotate_left
  · by_cases h : kS p l = true
    · rw [if_pos h]
      by_cases g : yP p n a
      · rw [if_pos g]
        unfold Df
        have:=y9 (kS.pm h) l n.toNat a
        have:=g.1
        split
        · unfold Sm;dsimp only;omega
        · simp [Sm]
      · rw [if_neg g];simp [Sm]
    · rw [if_neg h];simp [Sm]
  · by_cases h : kS p l = true
    · rw [if_pos h]
      by_cases g : yP p n a
      · rw [if_pos g]
        intro _
        have:=y9 (kS.pm h) l n.toNat a
        have g1:=g.1
        unfold Df
        refine ⟨?_,g1⟩
        split
        · dsimp only;omega
        · dsimp only;simp;omega
      · rw [if_neg g];exact fun k=>absurd k (by decide)
    · rw [if_neg h];exact fun k=>absurd k (by decide)
  · unfold oG.f
    exact Ev.bind (yS p l hl n a) (Ev.now _)
  · unfold oF.f
    exact Ev.bind hc2 (Ev.now _)
/- ReproduceAt: for all arguments the program and the reference come to one value; no condition. -/
theorem GV (p : Int) (l : List Int) (n : Int) (f : List Int) (a : Int) (hl : Sm l.length) (hf : Sm f.length) : ∃ v : Int × Int,Ev (fun k=>aJ.f k p l n f a) v∧Ev (fun k=>dZ.f k p l n f a) v ∧
    (v.2 = 0 → kS p l = true∧qb p f = true∧yP p n a∧n + 1 ≤ vD p l∧(f.length : Int) ≤ n + 1∧v.1 = rP p l (lM p (xK p l n.toNat a) f) 0):=by
  have hc:=wO p l hl n a (decide ((f.length : Int) - 1 ≤ n)) [f] (by simp [Sm]) (fun l h=>by simp at h;rw [h];exact hf)
  have hs:=yS p l hl n a
  rw [List.all_cons,List.all_nil,Bool.and_true] at hc
  have hf':=hf
  unfold Sm at hf'
  have h1 : jT.f f n = some (decide ((f.length : Int) - 1 ≤ n)):=by
    unfold jT.f pJ.f
    show some (decide (wrap64 ((f.length : Int) - 1) ≤ n)) = _
    rw [bJ (by omega) (by omega)]
  by_cases h : (kS p l && qb p f) = true
  · rw [if_pos h] at hc
    rw [Bool.and_eq_true] at h
    rw [if_pos h.1] at hs
    have hp:=kS.pm h.1
    have nl:=kS.nm h.1
    have hlen:=kS.len h.1
    have nf : Nm p f:=by
      have:=h.2
      unfold qb at this
      rw [Bool.and_eq_true,decide_eq_true_eq] at this
      exact this.1
    have hj0 : ∀ v,Ev (fun k=>aJ.j0 k n f a false p l) v → Ev (fun k=>aJ.f k p l n f a) v:=fun v hv=>by
      unfold aJ.f
      refine Ev.bind (zW p l hl) (Ev.pos h.1 (Ev.bind (Gx p f hf) ?_))
      rw [h.2]
      exact hv
    by_cases hr : yP p n a
    · rw [if_pos hr] at hs
      have hcode:=Ld p l n.toNat a
      have hn1 : wrap64 (n + 1) = n + 1:=by have:=hr.1;exact bJ (by omega) (by omega)
      obtain ⟨k,rfl⟩:=Int.eq_ofNat_of_zero_le hr.1.1
      rw [jI] at hs hcode hc
      by_cases hd : (f.length : Int) - 1 ≤ (k : Int)
      · rw [decide_eq_true hd] at hc h1
        rw [if_pos ⟨hr,rfl⟩] at hc
        have h11:=hr.1.2
        have hkl:=y9 hp l k a
        have hkn:=Nr hp l k a
        rcases hcode with ⟨h0,c,hk⟩ | h5
        · obtain ⟨m,hm,hm2⟩:=Bn p l
          have hml:=sS p (xK p l k a) f
          have hap : (lM p (xK p l k a) f).length ≤ l.length:=by omega
          refine ⟨(rP p l (lM p (xK p l k a) f) 0,0),hj0 _ ?_,?_,fun _=>⟨h.1,h.2,hr,c,by omega,rfl⟩⟩
          · refine Ev.step (fun k=>by rw [aJ.j0]) ?_
            refine Ev.neg (by decide) (Ev.bind hs ?_)
            rw [h0,hk,hn1,decide_eq_false (by omega)]
            refine Ev.neg (by decide) (Ev.step (fun k=>by rw [aJ.j1]) ?_)
            refine Ev.neg (by decide) (Ev.step (fun k=>by rw [aJ.j2]) ?_)
            exact Ev.pos rfl (Ev.bind (DU hp _ _ hkn nf (by unfold Sm;omega) hf (by unfold Sm;omega)) (Ev.bind (EA hp l _ nl (uP hp.pos _ _) 0 (.inl (by omega)) (by unfold Sm;omega) (by simp [Sm])) (Ev.now _)))
          · unfold dZ.f
            refine Ev.iN h1 (Ev.bind hc ?_)
            rw [h0,hk]
            exact Ev.pos rfl (Ev.iN (a:=p) rfl (Ev.bind (vG hp _ _ hkn nf (by unfold Sm;omega) hf (by unfold Sm;omega)) (Ev.bind (zX hp l _ nl (uP hp.pos _ _) hap (by unfold Sm;omega)) (Ev.now _))))
        · refine ⟨(0,5),hj0 _ ?_,?_,fun g=>absurd g (by decide)⟩
          · refine Ev.step (fun k=>by rw [aJ.j0]) ?_
            refine Ev.neg (by decide) (Ev.bind hs ?_)
            rw [h5,hn1,decide_eq_false (by omega)]
            refine Ev.neg (by decide) (Ev.step (fun k=>by rw [aJ.j1]) ?_)
            refine Ev.neg (by decide) (Ev.step (fun k=>by rw [aJ.j2]) ?_)
            exact Ev.neg (by decide) (Ev.now _)
          · unfold dZ.f
            refine Ev.iN h1 (Ev.bind hc ?_)
            rw [h5]
            exact Ev.neg (by decide) (Ev.now _)
      · rw [decide_eq_false hd] at hc h1
        rw [if_neg (fun g=>by cases g.2)] at hc
        refine ⟨(0,2),hj0 _ ?_,?_,fun g=>absurd g (by decide)⟩
        · refine Ev.step (fun k=>by rw [aJ.j0]) ?_
          refine Ev.neg (by decide) (Ev.bind hs (Ev.neg (by rcases hcode with ⟨h0,_⟩ | h5 <;> omega) ?_))
          rw [hn1,decide_eq_true (by omega)]
          refine Ev.step (fun k=>by rw [aJ.j1]) ?_
          refine Ev.pos rfl (Ev.step (fun k=>by rw [aJ.j2]) ?_)
          exact Ev.neg (by decide) (Ev.now _)
        · unfold dZ.f
          exact Ev.iN h1 (Ev.bind hc (Ev.neg (by simp) (Ev.now _)))
    · rw [if_neg hr] at hs
      rw [if_neg (fun g=>hr g.1)] at hc
      refine ⟨(0,2),hj0 _ ?_,?_,fun g=>absurd g (by decide)⟩
      · refine Ev.step (fun k=>by rw [aJ.j0]) ?_
        refine Ev.neg (by decide) (Ev.bind hs (Ev.neg (by simp) ?_))
        by_cases hd : (f.length : Int) > wrap64 (n + 1)
        · rw [decide_eq_true hd]
          refine Ev.step (fun k=>by rw [aJ.j1]) ?_
          refine Ev.pos rfl (Ev.step (fun k=>by rw [aJ.j2]) ?_)
          exact Ev.neg (by decide) (Ev.now _)
        · rw [decide_eq_false hd]
          refine Ev.step (fun k=>by rw [aJ.j1]) ?_
          refine Ev.neg (by decide) (Ev.step (fun k=>by rw [aJ.j2]) ?_)
          exact Ev.neg (by simp) (Ev.now _)
      · unfold dZ.f
        exact Ev.iN h1 (Ev.bind hc (Ev.neg (by simp) (Ev.now _)))
  · rw [if_neg h] at hc
    refine ⟨(0,1),?_,?_,fun g=>absurd g (by decide)⟩
    · unfold aJ.f
      refine Ev.bind (zW p l hl) ?_
      by_cases hm : kS p l = true
      · have hpb : qb p f = false:=by
          rw [hm,Bool.true_and] at h
          exact Bool.eq_false_iff.2 h
        refine Ev.pos hm (Ev.bind (Gx p f hf) ?_)
        rw [hpb]
        refine Ev.step (fun k=>by rw [aJ.j0]) ?_
        exact Ev.pos rfl (Ev.now _)
      · refine Ev.neg hm (Ev.step (fun k=>by rw [aJ.j0]) ?_)
        exact Ev.pos rfl (Ev.now _)
    · unfold dZ.f
      exact Ev.iN h1 (Ev.bind hc (Ev.neg (by simp) (Ev.now _)))
end Go.Proofs.YtnpepkpogohcmaaGreat.Pr
