/- Texts of this session in one: what functions of the program compute, and plain facts of it, under the conditions that each theorem names. -/
import Derived.Test.YtnpepkpogohcmaaGreatKls1
import Derived.Test.YtnpepkpogohcmaaGreatKls2
import Derived.Test.YtnpepkpogohcmaaGreatKls3
import Derived.Test.YtnpepkpogohcmaaGreatKls4
import Derived.Test.YtnpepkpogohcmaaGreatKls5
namespace Go.Proofs.YtnpepkpogohcmaaGreat.Pr
/- Polynomials and the program's code for them; no condition. -/
open Go.RowKit Go.Proofs.YtnpepkpogohcmaaGreatW.PrintWords Go.Proofs.YtnpepkpogohcmaaGreatW.PrintLast Go.Proofs.YtnpepkpogohcmaaGreatW.PrintMore
/-! ### polynomials -/
def Kh (l : List Int) : Bool:=decide (l.length = 0) || (l.getD (l.length - 1) 0 != 0)
def qb (p : Int) (l : List Int) : Bool:=decide (Nm p l) && (decide (l.length ≤ 25) && Kh l)
theorem QW (l : List Int) (hl : Sm l.length) :
    (if (l.length : Int) = 0 then (some true) else (if 0 ≤ (wrap64 ((l.length : Int) - 1)) then (if (wrap64 ((l.length : Int) - 1)) < (l.length : Int) then (some ((rd l (wrap64 ((l.length : Int) - 1))) != 0)) else none) else none)) = some (Kh l):=by
  unfold Kh
  by_cases h : l.length = 0
  · rw [if_pos (by omega)];simp [h]
  · rw [if_neg (by omega),Uk (by omega) (by unfold Sm at hl;omega),if_pos (by omega),if_pos (by omega),mV]
    simp [h]
theorem QX (p : Int) (l : List Int) (hl : Sm l.length) : qx.f p l = some (qb p l):=by
  unfold qx.f qb
  by_cases h : l.length ≤ 25
  · rw [if_pos (by omega),Jm p l (by omega),Option.bind_some]
    by_cases hn : Nm p l
    · rw [if_pos (decide_eq_true hn),QW l hl];simp [h,hn]
    · rw [if_neg (by simp [hn])];simp [hn]
  · rw [if_neg (by omega)];simp [h]
theorem XG (p : Int) (ls : List (List Int)) (hl : ∀ l ∈ ls,Sm l.length) : Ei (fun z_=>gV.f z_ p) ls = some (ls.all (qb p)):=by
  induction ls with
  | nil=>rfl
  | cons l ls ih =>
    have e : gV.f l p = some (qb p l):=by
      unfold gV.f
      rw [QX p l (hl l (List.mem_cons_self ..))];rfl
    simp only [Ei,e,Option.bind_some,List.all_cons]
    by_cases h : qb p l = true
    · rw [if_pos h,ih (fun m hm=>hl m (List.mem_cons_of_mem _ hm)),h,Bool.true_and]
    · rw [if_neg h,Bool.eq_false_iff.2 h,Bool.false_and]
theorem GN (p : Int) (b : Bool) (ls : List (List Int)) (hs : Sm ls.length) (hl : ∀ l ∈ ls,Sm l.length) :
    Ev (fun k=>lw.f k p b ls) (if ls.all (qb p) then (if gQ p && b then 0 else 2) else 1):=by
  unfold lw.f
  have e : jK.f ls (fun z_=>gV.f z_ p) = some (ls.all (qb p)):=by
    unfold jK.f
    rw [if_pos (by unfold Sm at hs;omega),XG p ls hl]
  refine Ev.iN e ?_
  by_cases h : ls.all (qb p) = true
  · refine Ev.pos h (Ev.bind (Ep p) ?_)
    rw [if_pos h]
    cases gQ p <;> cases b <;> exact ⟨0,fun _ _=>rfl⟩
  · refine Ev.neg h (Ev.oh ?_)
    rw [if_neg h]
/- Small facts of polynomials; no condition. -/
theorem qb.nm {p : Int} {f : List Int} (h : qb p f = true) : Nm p f:=by
  simp only [qb,Bool.and_eq_true,decide_eq_true_eq] at h;exact h.1
theorem qb.len {p : Int} {f : List Int} (h : qb p f = true) : f.length ≤ 25:=by
  simp only [qb,Bool.and_eq_true,decide_eq_true_eq] at h;exact h.2.1
/- Polynomials: the reference's test; no condition. -/
theorem QY (p : Int) (l : List Int) (hl : Sm l.length) (d : Nat) : ∀ i,i + d = l.length → Ev (fun k=>jh.l0 k p l (i : Int)) (decide (Nm p (l.drop i)) && (decide (l.length ≤ 25) && Kh l)):=by
  induction d with
  | zero =>
    intro i hi
    refine Ev.step (fun k=>by rw [jh.l0]) ?_
    refine Ev.neg (by omega) ?_
    rw [List.drop_eq_nil_of_le (by omega),decide_eq_true (Nm.nil p),Bool.true_and]
    by_cases h : l.length ≤ 25
    · refine Ev.pos (by omega) (Ev.eq ?_)
      rw [QW l hl];simp [h]
    · exact Ev.neg (by omega) (Ev.oh (by simp [h]))
  | succ d ih =>
    intro i hi
    refine Ev.step (fun k=>by rw [jh.l0]) ?_
    refine Ev.pos (by omega) (Ev.pos (by omega) ?_)
    rw [mV,lC (i:=i) (n:=l.length) (by omega) (by unfold Sm at hl;omega)]
    by_cases h : l.getD i 0 < 0
    · refine Ev.pos h (Ev.oh ?_)
      rw [decide_eq_false (fun g=>by have:=((Er (by omega : i < l.length)).1 g).1.1;omega),Bool.false_and]
    · refine Ev.neg h ?_
      by_cases h' : p ≤ l.getD i 0
      · refine Ev.pos h' (Ev.oh ?_)
        rw [decide_eq_false (fun g=>by have:=((Er (by omega : i < l.length)).1 g).1.2;omega),Bool.false_and]
      · refine Ev.neg h' (Ev.cast (ih (i + 1) (by omega)) ?_)
        congr 1
        apply decide_eq_decide.2
        rw [Er (by omega : i < l.length)]
        exact ⟨fun g=>⟨⟨by omega,by omega⟩,g⟩,fun g=>g.2⟩
theorem Gx (p : Int) (l : List Int) (hl : Sm l.length) : Ev (fun k=>jh.f k p l) (qb p l):=by
  unfold jh.f qb
  simpa using QY p l hl l.length 0 (by omega)
/- Moments: which lists are some, for the program and for the reference; no condition. -/
theorem Tc (p : Int) (hp : -9223372036854775807 ≤ p) (hp' : p ≤ 9223372036854775807) (l : List Int) (hl : Sm l.length) (d : Nat) : ∀ i,i + d = l.length → Ev (fun k=>gW.l0 k p l (i : Int)) (decide (Nm p (l.drop i))):=by
  induction d with
  | zero =>
    intro i hi
    refine Ev.step (fun k=>by rw [gW.l0]) ?_
    refine Ev.neg (by omega) (Ev.oh ?_)
    rw [List.drop_eq_nil_of_le (by omega)]
    exact (decide_eq_true (Nm.nil p)).symm
  | succ d ih =>
    intro i hi
    refine Ev.step (fun k=>by rw [gW.l0]) ?_
    refine Ev.pos (by omega) (Ev.pos (by omega) (Ev.iN (Pp _ _ _) ?_))
    rw [mV,bJ (x:=p - 1) (by omega) (by omega),lC (i:=i) (n:=l.length) (by omega) (by unfold Sm at hl;omega)]
    by_cases h : 0 ≤ l.getD i 0∧l.getD i 0 ≤ p - 1
    · refine Ev.pos (decide_eq_true h) (Ev.cast (ih (i + 1) (by omega)) ?_)
      apply decide_eq_decide.2
      rw [Er (by omega : i < l.length)]
      exact ⟨fun g=>⟨⟨h.1,by omega⟩,g⟩,fun g=>g.2⟩
    · refine Ev.neg (by simpa using h) (Ev.oh (decide_eq_false ?_).symm)
      rw [Er (by omega : i < l.length)]
      exact fun g=>h ⟨g.1.1,by omega⟩
theorem Td {p : Int} (hp : Pm p) (l : List Int) (hl : Sm l.length) : Ev (fun k=>gW.f k p l) (decide (Nm p l)):=by
  unfold gW.f
  have h2:=hp.two
  have ht:=hp.top
  simpa using Tc p (by omega) (by omega) l hl l.length 0 (by omega)

/-! ### moments -/
def kS (p : Int) (l : List Int) : Bool:=gQ p && (decide (1 ≤ l.length∧l.length ≤ 24) && decide (Nm p l))
theorem kS.pm {p : Int} {l : List Int} (h : kS p l = true) : Pm p:=by
  simp only [kS,Bool.and_eq_true] at h;exact gQ.pm h.1
theorem kS.nm {p : Int} {l : List Int} (h : kS p l = true) : Nm p l:=by
  simp only [kS,Bool.and_eq_true,decide_eq_true_eq] at h;exact h.2.2
theorem kS.len {p : Int} {l : List Int} (h : kS p l = true) : 1 ≤ l.length∧l.length ≤ 24:=by
  simp only [kS,Bool.and_eq_true,decide_eq_true_eq] at h;exact h.2.1
theorem kS.Bl {p : Int} {l : List Int} (h : kS p l = true) : gQ p = true:=by
  simp only [kS,Bool.and_eq_true] at h;exact h.1
theorem zW (p : Int) (l : List Int) (hl : Sm l.length) : Ev (fun k=>ll.f k p l) (kS p l):=by
  unfold ll.f kS
  refine Ev.bind (Eo p) ?_
  by_cases hp : gQ p = true
  · rw [hp,Bool.true_and]
    refine Ev.pos rfl ?_
    by_cases h1 : 1 ≤ l.length
    · refine Ev.pos (by omega) ?_
      by_cases h2 : l.length ≤ 24
      · refine Ev.pos (by omega) (Ev.bind (Td (gQ.pm hp) l hl) (Ev.oh ?_))
        rw [decide_eq_true (⟨h1,h2⟩ : 1 ≤ l.length∧l.length ≤ 24),Bool.true_and]
      · exact Ev.neg (by omega) (Ev.oh (by simp [h2]))
    · exact Ev.neg (by omega) (Ev.oh (by simp [h1]))
  · rw [Bool.eq_false_iff.2 hp,Bool.false_and]
    exact Ev.neg (by simp) (Ev.now _)
theorem Te (p : Int) (l : List Int) (hl : Sm l.length) : Ev (fun k=>eu.f k p l) (kS p l):=by
  unfold eu.f kS
  refine Ev.bind (Ep p) ?_
  by_cases hp : gQ p = true
  · rw [hp,Bool.true_and]
    refine Ev.pos rfl (Ev.iN (a:=(l.length : Int)) rfl (Ev.iN (Cq _ _ _) ?_))
    by_cases h : 1 ≤ l.length∧l.length ≤ 24
    · refine Ev.pos (decide_eq_true (by omega)) (Ev.iN (a:=p) rfl (Ev.iN (Jm p l (by unfold Sm at hl;omega)) (Ev.oh ?_)))
      rw [decide_eq_true h,Bool.true_and]
    · refine Ev.neg (by simp;omega) (Ev.oh ?_)
      rw [decide_eq_false h,Bool.false_and]
  · rw [Bool.eq_false_iff.2 hp,Bool.false_and]
    exact Ev.neg (by simp) (Ev.now _)
theorem xS (p : Int) (l : List Int) (hl : Sm l.length) (b : Bool) (ls : List (List Int)) (hs : Sm ls.length) (hls : ∀ l ∈ ls,Sm l.length) :
    Ev (fun k=>fo.f k p l b ls) (if kS p l && ls.all (qb p) then (if b then 0 else 2) else 1):=by
  unfold fo.f
  refine Ev.bind (Te p l hl) ?_
  by_cases h : kS p l = true
  · rw [h,Bool.true_and]
    refine Ev.pos rfl (Ev.bind (GN p b ls hs hls) (Ev.oh ?_))
    rw [kS.Bl h,Bool.true_and]
  · rw [Bool.eq_false_iff.2 h,Bool.false_and]
    exact Ev.neg (by simp) (Ev.oh rfl)
/- What the functional makes of a polynomial: one sum modulo p, in the program and in the reference. -/
/-- The functional at f times x^s. -/
def rP (p : Int) (m f : List Int) (s : Nat) : Int:=sumTo (fun j=>f.getD j 0 * m.getD (j + s) 0) f.length % p

theorem OE {p : Int} (hp : Pm p) (m f : List Int) (hm : Nm p m) (hf : Nm p f) (s : Nat) (hs : f.length + s ≤ m.length ∨ f = []) (hl : Sm f.length) (hss : Sm s) (d : Nat) : ∀ i,i + d = f.length →
    Ev (fun k=>iw.l0 k f (s : Int) (sumTo (fun j=>f.getD j 0 * m.getD (j + s) 0) i % p) (i : Int) p m) (rP p m f s):=by
  induction d with
  | zero =>
    intro i hi
    refine Ev.step (fun k=>by rw [iw.l0]) ?_
    refine Ev.neg (by omega) (Ev.oh ?_)
    unfold rP
    rw [show i = f.length from by omega]
  | succ d ih =>
    intro i hi
    have hs' : f.length + s ≤ m.length:=by
      rcases hs with h | h
      · exact h
      · rw [h] at hi;simp at hi
    unfold Sm at hl hss
    have h1:=hf.get (i:=i) (by omega)
    have h2:=hm.get (i:=i + s) (by omega)
    have h3:=yO hp h1.1 h1.2 h2.1 h2.2
    have h4:=lv hp.pos (sumTo (fun j=>f.getD j 0 * m.getD (j + s) 0) i)
    have ht:=hp.top
    refine Ev.step (fun k=>by rw [iw.l0]) ?_
    refine Ev.pos (by omega) (Ev.pos (by omega) ?_)
    rw [Yz (i:=i) (j:=s) (n:=i + s + 1) (by omega) (by omega)]
    refine Ev.pos (by omega) (Ev.pos (by omega) (Ev.neg hp.ne ?_))
    rw [mV,mV,bJ (x:=f.getD i 0 * m.getD (i + s) 0) (by omega) (by omega),bJ (by omega) (by omega),jY (by omega),Int.emod_add_emod,lC (i:=i) (n:=f.length) (by omega) (by omega)]
    exact ih (i + 1) (by omega)
theorem EA {p : Int} (hp : Pm p) (m f : List Int) (hm : Nm p m) (hf : Nm p f) (s : Nat) (hs : f.length + s ≤ m.length ∨ f = []) (hl : Sm f.length) (hss : Sm s) :
    Ev (fun k=>iw.f k p m f (s : Int)) (rP p m f s):=by
  unfold iw.f
  have h:=OE hp m f hm hf s hs hl hss f.length 0 (by omega)
  simpa [sumTo] using h

theorem OG {p : Int} (hp : Pm p) (m f : List Int) (hm : Nm p m) (hf : Nm p f) (hs : f.length ≤ m.length) (hl : Sm f.length) (d : Nat) : ∀ i,i + d = f.length →
    Ev (fun k=>bv.l0 k (sumTo (fun j=>f.getD j 0 * m.getD j 0) i % p) f (f.length : Int) (i : Int) p m) (rP p m f 0):=by
  induction d with
  | zero =>
    intro i hi
    refine Ev.step (fun k=>by rw [bv.l0]) ?_
    refine Ev.neg (by omega) (Ev.oh ?_)
    unfold rP
    rw [show i = f.length from by omega]
    rfl
  | succ d ih =>
    intro i hi
    unfold Sm at hl
    have h1:=hf.get (i:=i) (by omega)
    have h2:=hm.get (i:=i) (by omega)
    have h3:=yO hp h1.1 h1.2 h2.1 h2.2
    have h4:=lv hp.pos (sumTo (fun j=>f.getD j 0 * m.getD j 0) i)
    have ht:=hp.top
    refine Ev.step (fun k=>by rw [bv.l0]) ?_
    refine Ev.pos (by omega) (Ev.pos (by omega) (Ev.pos (by omega) (Ev.iN (a:=p) rfl (Ev.pos (by omega) (Ev.iN (Bq hp _) ?_)))))
    rw [mV,mV,bJ (x:=f.getD i 0 * m.getD i 0) (by omega) (by omega),bJ (by omega) (by omega),Int.emod_add_emod,lC (i:=i) (n:=f.length) (by omega) (by omega)]
    exact ih (i + 1) (by omega)
theorem zX {p : Int} (hp : Pm p) (m f : List Int) (hm : Nm p m) (hf : Nm p f) (hs : f.length ≤ m.length) (hl : Sm f.length) :
    Ev (fun k=>bv.f k p m f) (rP p m f 0):=by
  unfold bv.f
  have h:=OG hp m f hm hf hs hl f.length 0 (by omega)
  simpa [sumTo] using h
/- Lists without noughts at their end; no condition. -/
theorem Ip {p : Int} (hp : Pm p) (x : Int) : jB.f p x = some (x % p):=by
  unfold jB.f
  rw [if_neg hp.ne,Jh hp]

/-! ### noughts at the end -/
theorem LQ (l : List Int) (x : Int) (m : List Int) : ((l ++ [x]) ++ m).getD l.length 0 = x:=by
  rw [List.append_assoc,List.getD_eq_getElem?_getD,List.getElem?_append_right (Nat.le_refl _),Nat.sub_self];rfl
theorem QZ (l : List Int) : Sm l.length → Ev (fun k=>iT.l0 k l) (oU l):=by
  induction l using MP with
  | h0 =>
    intro _
    refine Ev.step (fun k=>by rw [iT.l0]) ?_
    exact Ev.neg (by simp) (Ev.now _)
  | h1 l x ih =>
    intro hl
    have hn : (l ++ [x]).length = l.length + 1:=by simp
    rw [hn] at hl
    unfold Sm at hl
    have e : wrap64 (((l ++ [x]).length : Int) - 1) = (l.length : Int):=by rw [hn,bJ (by omega) (by omega)];omega
    have er : rd (l ++ [x]) (l.length : Int) = x:=by
      rw [mV];have:=LQ l x [];rwa [List.append_nil] at this
    refine Ev.step (fun k=>by rw [iT.l0]) ?_
    rw [e,er]
    refine Ev.pos (by omega) (Ev.pos (by omega) (Ev.pos (by omega) ?_))
    by_cases hx : x = 0
    · refine Ev.pos hx (Ev.pos (by omega) ?_)
      rw [jI,List.take_left,hx,uG]
      exact ih (by unfold Sm;omega)
    · refine Ev.neg hx (Ev.oh ?_)
      rw [xz l hx]
theorem GQ (l : List Int) (hl : Sm l.length) : Ev (fun k=>iT.f k l) (oU l):=by
  unfold iT.f
  exact QZ l hl
theorem Q0 (l : List Int) : ∀ m : List Int,Sm (l ++ m).length → Ev (fun k=>fV.l0 k (l ++ m) (l.length : Int)) (oU l):=by
  induction l using MP with
  | h0 =>
    intro m hl
    refine Ev.step (fun k=>by rw [fV.l0]) ?_
    refine Ev.neg (by simp) (Ev.pos (by simp) (Ev.pos (by simp) (Ev.iN (Jk _ (hl.take _)) (Ev.oh ?_))))
    simp [Ji]
  | h1 l x ih =>
    intro m hl
    have hn : (l ++ [x]).length = l.length + 1:=by simp
    have hl':=hl
    rw [List.length_append,hn] at hl'
    have hm : (l ++ [x] ++ m).length = l.length + 1 + m.length:=by rw [List.length_append,hn]
    unfold Sm at hl'
    have e : wrap64 (((l ++ [x]).length : Int) - 1) = (l.length : Int):=by rw [hn,bJ (by omega) (by omega)];omega
    have er : rd ((l ++ [x]) ++ m) (l.length : Int) = x:=by
      rw [mV];exact LQ l x m
    refine Ev.step (fun k=>by rw [fV.l0]) ?_
    rw [e,er]
    refine Ev.pos (by omega) (Ev.pos (by omega) (Ev.pos (by omega) ?_))
    by_cases hx : x = 0
    · refine Ev.pos hx ?_
      have:=ih ([x] ++ m) (by rw [← List.append_assoc];exact hl)
      rw [← List.append_assoc] at this
      rw [hx,uG]
      rw [hx] at this
      exact this
    · refine Ev.neg hx (Ev.pos (by omega) (Ev.pos (by omega) (Ev.iN (Jk _ (hl.take _)) (Ev.oh ?_))))
      rw [jI,List.take_left,xz l hx]
theorem yB (l : List Int) (hl : Sm l.length) : Ev (fun k=>fV.f k l) (oU l):=by
  unfold fV.f
  have:=Q0 l [] (by rw [List.append_nil];exact hl)
  rwa [List.append_nil] at this
theorem Ki (l : List Int) : (oU l).length ≤ l.length:=by
  obtain ⟨n,h⟩:=Jj l
  have:=congrArg List.length h
  rw [List.length_append] at this
  omega
theorem Nm.oU {p : Int} {l : List Int} (h : Nm p l) : Nm p (oU l):=by
  obtain ⟨n,e⟩:=Jj l
  intro x hx
  refine h x ?_
  rw [e]
  exact List.mem_append_left _ hx
/- Sums of polynomials modulo p: the program's side; no condition. -/
/-! ### sums -/
def wS (p k : Int) (g : List Int) : Nat → Nat → List Int → List Int
  | 0,_,o=>o
  | d + 1,i,o=>wS p k g d (i + 1) (o.set i ((o.getD i 0 + k * g.getD i 0) % p))
theorem LU (p k : Int) (g : List Int) (d : Nat) : ∀ i o,(wS p k g d i o).length = o.length:=by
  induction d with
  | zero=>intro i o;rfl
  | succ d ih=>intro i o;rw [wS,ih,List.length_set]
theorem abq {p : Int} (hp : 0 < p) (k : Int) (g : List Int) (d : Nat) : ∀ i o,Nm p o → Nm p (wS p k g d i o):=by
  induction d with
  | zero=>intro i o h;exact h
  | succ d ih=>intro i o h;exact ih _ _ (h.set (lv hp _).1 (lv hp _).2 i)
/-- The list that the sum begins with. -/
def u6 (f : List Int) (n : Nat) : List Int:=f ++ List.replicate (n - f.length) 0
theorem vP (f : List Int) {n : Nat} (h : f.length ≤ n) : (u6 f n).length = n:=by
  rw [u6,List.length_append,List.length_replicate];omega
theorem Nm.u6 {p : Int} (hp : 0 < p) {f : List Int} (h : Nm p f) (n : Nat) : Nm p (u6 f n):=h.append (Nm.zeros hp _)
/-- f and k times g. -/
def Dg (p : Int) (f g : List Int) (k : Int) : List Int:=oU (wS p k g g.length 0 (u6 f (max f.length g.length)))
theorem QV (p : Int) (f g : List Int) (k : Int) : (Dg p f g k).length ≤ max f.length g.length:=by
  have:=Ki (wS p k g g.length 0 (u6 f (max f.length g.length)))
  rw [LU,vP f (by omega)] at this
  exact this
theorem Wh {p : Int} (hp : 0 < p) {f g : List Int} (hf : Nm p f) (k : Int) : Nm p (Dg p f g k):=(abq hp k g _ _ _ (hf.u6 hp _)).oU
theorem abr (a b : Nat) : mx (a : Int) (b : Int) = ((max a b : Nat) : Int):=by
  unfold mx;split <;> omega
theorem abt {p k : Int} (hp : Pm p) (hk : 0 ≤ k∧k < p) (g : List Int) (hg : Nm p g) (d : Nat) : ∀ (i : Nat) (o : List Int),i + d = g.length → g.length ≤ o.length → Nm p o → Sm o.length →
    Ev (fun n=>gT.l0 n p k o g (g.length : Int) (i : Int)) (oU (wS p k g d i o)):=by
  induction d with
  | zero =>
    intro i o hi hl ho hs
    refine Ev.step (fun n=>by rw [gT.l0]) ?_
    exact Ev.neg (by omega) (Ev.bind (GQ o hs) (Ev.now _))
  | succ d ih =>
    intro i o hi hl ho hs
    have h1:=ho.get (i:=i) (by omega)
    have h2:=hg.get (i:=i) (by omega)
    have h3:=yO hp hk.1 hk.2 h2.1 h2.2
    have ht:=hp.top
    have hm:=lv hp.pos (o.getD i 0 + k * g.getD i 0)
    have hs':=hs
    unfold Sm at hs'
    refine Ev.step (fun n=>by rw [gT.l0]) ?_
    refine Ev.pos (by omega) (Ev.pos (by omega) (Ev.pos (by omega) (Ev.pos (by omega) ?_)))
    rw [mV,mV,bJ (x:=k * g.getD i 0) (by omega) (by omega),bJ (by omega) (by omega)]
    refine Ev.iN (Bq hp _) ?_
    rw [lC (i:=i) (n:=g.length) (by omega) (by omega),jI]
    exact ih (i + 1) _ (by omega) (by rw [List.length_set];omega) (ho.set hm.1 hm.2 i) (by rw [List.length_set];exact hs)
theorem XH (f : List Int) {n : Nat} (h : f.length ≤ n) : cpy (List.replicate n 0) f = u6 f n:=by
  unfold cpy u6
  rw [List.length_replicate,Nat.min_eq_left h,List.take_length,List.drop_replicate]
theorem JK {p k : Int} (hp : Pm p) (hk : 0 ≤ k∧k < p) (f g : List Int) (hf : Nm p f) (hg : Nm p g) (sf : Sm f.length) (sg : Sm g.length) :
    Ev (fun n=>gT.f n p f g k) (Dg p f g k):=by
  unfold gT.f
  unfold Sm at sf sg
  rw [abr,jI,XH f (by omega)]
  refine Ev.pos (by omega) (Ev.pos (by omega) ?_)
  exact abt hp hk g hg g.length 0 _ (by omega) (by rw [vP f (by omega)];omega) (hf.u6 hp.pos _) (by rw [vP f (by omega)];unfold Sm;omega)
/- Sums of polynomials modulo p; no condition. -/
theorem abu {p k : Int} (hp : Pm p) (hk : 0 ≤ k∧k < p) (g : List Int) (hg : Nm p g) (d : Nat) : ∀ (i : Nat) (o : List Int),i + d = g.length → g.length ≤ o.length → Nm p o → Sm o.length →
    Ev (fun n=>dG.l1 n p g k o (i : Int)) (oU (wS p k g d i o)):=by
  induction d with
  | zero =>
    intro i o hi hl ho hs
    refine Ev.step (fun n=>by rw [dG.l1]) ?_
    exact Ev.neg (by omega) (Ev.bind (yB o hs) (Ev.now _))
  | succ d ih =>
    intro i o hi hl ho hs
    have h1:=ho.get (i:=i) (by omega)
    have h2:=hg.get (i:=i) (by omega)
    have h3:=yO hp hk.1 hk.2 h2.1 h2.2
    have ht:=hp.top
    have hm:=lv hp.pos (o.getD i 0 + k * g.getD i 0)
    have hs':=hs
    unfold Sm at hs'
    refine Ev.step (fun n=>by rw [dG.l1]) ?_
    refine Ev.pos (by omega) (Ev.pos (by omega) (Ev.pos (by omega) ?_))
    rw [mV,mV,bJ (x:=k * g.getD i 0) (by omega) (by omega),bJ (by omega) (by omega)]
    refine Ev.iN (Ip hp _) ?_
    rw [lC (i:=i) (n:=g.length) (by omega) (by omega),jI]
    exact ih (i + 1) _ (by omega) (by rw [List.length_set];omega) (ho.set hm.1 hm.2 i) (by rw [List.length_set];exact hs)
theorem abv {p k : Int} (f g : List Int) (n : Nat) (r : List Int) (hn : f.length ≤ n) (hs : Sm n) (e : Ev (fun m=>dG.l1 m p g k (u6 f n) 0) r) (d : Nat) : ∀ i,i + d = f.length →
    Ev (fun m=>dG.l0 m p f g k (f.take i ++ List.replicate (n - i) 0) (i : Int)) r:=by
  induction d with
  | zero =>
    intro i hi
    refine Ev.step (fun m=>by rw [dG.l0]) ?_
    refine Ev.neg (by omega) ?_
    rw [show i = f.length from by omega,List.take_length]
    exact e
  | succ d ih =>
    intro i hi
    unfold Sm at hs
    have hl : (f.take i ++ List.replicate (n - i) (0 : Int)).length = n:=by rw [List.length_append,List.length_take,List.length_replicate];omega
    refine Ev.step (fun m=>by rw [dG.l0]) ?_
    refine Ev.pos (by omega) (Ev.pos (by omega) (Ev.pos (by omega) ?_))
    rw [mV,jI,lC (i:=i) (n:=n) (by omega) (by omega)]
    have e2 : (f.take i ++ List.replicate (n - i) (0 : Int)).set i (f.getD i 0) = f.take (i + 1) ++ List.replicate (n - (i + 1)) 0:=by
      rw [List.set_append_right (h:=by rw [List.length_take];omega),List.length_take,show i - min i f.length = 0 from by omega,show n - i = (n - (i + 1)) + 1 from by omega,List.replicate_succ,List.set_cons_zero,List.take_add_one,List.append_assoc,List.getElem?_eq_getElem (by omega),List.getD_eq_getElem?_getD,List.getElem?_eq_getElem (by omega)]
      rfl
    rw [e2]
    exact ih (i + 1) (by omega)
theorem Jz {p k : Int} (hp : Pm p) (hk : 0 ≤ k∧k < p) (f g : List Int) (hf : Nm p f) (hg : Nm p g) (sf : Sm f.length) (sg : Sm g.length) :
    Ev (fun n=>dG.f n p f g k) (Dg p f g k):=by
  unfold dG.f
  unfold Sm at sf sg
  rw [abr,jI]
  refine Ev.pos (by omega) (Ev.pos (by omega) ?_)
  have h1:=abu hp hk g hg g.length 0 (u6 f (max f.length g.length)) (by omega) (by rw [vP f (by omega)];omega) (hf.u6 hp.pos _) (by rw [vP f (by omega)];unfold Sm;omega)
  have h2:=abv f g (max f.length g.length) _ (by omega) (by unfold Sm;omega) h1 f.length 0 (by omega)
  rw [List.take_zero,List.nil_append,Nat.sub_zero] at h2
  exact h2
/- Products of polynomials modulo p; no condition. -/
/-! ### products -/
def ql (p c : Int) (g : List Int) (i : Nat) : Nat → Nat → List Int → List Int
  | 0,_,o=>o
  | d + 1,j,o=>ql p c g i d (j + 1) (o.set (i + j) ((o.getD (i + j) 0 + c * g.getD j 0) % p))
theorem uq (p c : Int) (g : List Int) (i d : Nat) : ∀ j o,(ql p c g i d j o).length = o.length:=by
  induction d with
  | zero=>intro j o;rfl
  | succ d ih=>intro j o;rw [ql,ih,List.length_set]
theorem Fh {p : Int} (hp : 0 < p) (c : Int) (g : List Int) (i d : Nat) : ∀ j o,Nm p o → Nm p (ql p c g i d j o):=by
  induction d with
  | zero=>intro j o h;exact h
  | succ d ih=>intro j o h;exact ih _ _ (h.set (lv hp _).1 (lv hp _).2 _)
def tX (p : Int) (f g : List Int) : Nat → Nat → List Int → List Int
  | 0,_,o=>o
  | d + 1,i,o=>tX p f g d (i + 1) (ql p (f.getD i 0) g i g.length 0 o)
theorem Tf (p : Int) (f g : List Int) (d : Nat) : ∀ i o,(tX p f g d i o).length = o.length:=by
  induction d with
  | zero=>intro i o;rfl
  | succ d ih=>intro i o;rw [tX,ih,uq]
theorem XI {p : Int} (hp : 0 < p) (f g : List Int) (d : Nat) : ∀ i o,Nm p o → Nm p (tX p f g d i o):=by
  induction d with
  | zero=>intro i o h;exact h
  | succ d ih=>intro i o h;exact ih _ _ (Fh hp _ _ _ _ _ _ h)
/-- f times g. -/
def lM (p : Int) (f g : List Int) : List Int:=if f.length = 0 ∨ g.length = 0 then [] else oU (tX p f g f.length 0 (List.replicate (f.length + g.length - 1) 0))
theorem sS (p : Int) (f g : List Int) : (lM p f g).length ≤ f.length + g.length - 1:=by
  unfold lM
  split
  · simp
  · have:=Ki (tX p f g f.length 0 (List.replicate (f.length + g.length - 1) 0))
    rw [Tf,List.length_replicate] at this
    exact this
theorem uP {p : Int} (hp : 0 < p) (f g : List Int) : Nm p (lM p f g):=by
  unfold lM
  split
  · exact Nm.nil p
  · exact (XI hp _ _ _ _ _ (Nm.zeros hp _)).oU
theorem abw {p : Int} (hp : Pm p) (f g : List Int) (hg : Nm p g) (c : Int) (hc : 0 ≤ c∧c < p) (i : Nat) (r : List Int) (d : Nat) : ∀ (j : Nat) (o : List Int),j + d = g.length → i + g.length ≤ o.length → Nm p o → Sm o.length →
    Ev (fun n=>aN.l0 n p g (ql p c g i d j o) f (f.length : Int) (wrap64 ((i : Int) + 1))) r →
    Ev (fun n=>aN.l1 n p g o (i : Int) c f (f.length : Int) (i : Int) g (g.length : Int) (j : Int)) r:=by
  induction d with
  | zero =>
    intro j o hj hl ho hs e
    refine Ev.step (fun n=>by rw [aN.l1]) ?_
    exact Ev.neg (by omega) e
  | succ d ih =>
    intro j o hj hl ho hs e
    have h1:=ho.get (i:=i + j) (by omega)
    have h2:=hg.get (i:=j) (by omega)
    have h3:=yO hp hc.1 hc.2 h2.1 h2.2
    have ht:=hp.top
    have hm:=lv hp.pos (o.getD (i + j) 0 + c * g.getD j 0)
    have hs':=hs
    unfold Sm at hs'
    have hw : wrap64 ((i : Int) + (j : Int)) = ((i + j : Nat) : Int):=Yz (n:=o.length) (by omega) (by omega)
    refine Ev.step (fun n=>by rw [aN.l1]) ?_
    rw [hw]
    have c1 : (j : Int) < (g.length : Int):=by clear h1 h2 h3 hm hw e;omega
    have c2 : (0 : Int) ≤ (j : Int):=by clear h1 h2 h3 hm hw e;omega
    have c3 : (0 : Int) ≤ ((i + j : Nat) : Int):=by clear h1 h2 h3 hm hw e;omega
    have c4 : ((i + j : Nat) : Int) < (o.length : Int):=by clear h1 h2 h3 hm hw e;omega
    refine Ev.pos c1 (Ev.pos c2 (Ev.pos c1 (Ev.pos c3 (Ev.pos c4 ?_))))
    rw [mV,mV,bJ (x:=c * g.getD j 0) (by omega) (by omega),bJ (by omega) (by omega)]
    refine Ev.iN (Bq hp _) ?_
    rw [lC (i:=j) (n:=g.length) (by clear h1 h2 h3 hm hw e;omega) (by clear h1 h2 h3 hm hw e;omega),jI]
    exact ih (j + 1) _ (by clear h1 h2 h3 hm hw e;omega) (by rw [List.length_set];clear h1 h2 h3 hm hw e;omega) (ho.set hm.1 hm.2 _) (by rw [List.length_set];exact hs) e
theorem abx {p : Int} (hp : Pm p) (f g : List Int) (hf : Nm p f) (hg : Nm p g) (d : Nat) : ∀ (i : Nat) (o : List Int),i + d = f.length → f.length + g.length ≤ o.length + 1 → Nm p o → Sm o.length →
    Ev (fun n=>aN.l0 n p g o f (f.length : Int) (i : Int)) (oU (tX p f g d i o)):=by
  induction d with
  | zero =>
    intro i o hi hl ho hs
    refine Ev.step (fun n=>by rw [aN.l0]) ?_
    exact Ev.neg (by omega) (Ev.bind (GQ o hs) (Ev.now _))
  | succ d ih =>
    intro i o hi hl ho hs
    have hs':=hs
    unfold Sm at hs'
    refine Ev.step (fun n=>by rw [aN.l0]) ?_
    refine Ev.pos (by omega) (Ev.pos (by omega) (Ev.pos (by omega) ?_))
    rw [mV]
    refine abw hp f g hg _ (hf.get (i:=i) (by omega)) i _ g.length 0 o (by omega) (by omega) ho hs ?_
    by_cases hg0 : f.length ≤ 4611686018427387903
    · rw [lC (i:=i) (n:=f.length) (by omega) (by omega)]
      exact ih (i + 1) _ (by omega) (by rw [uq];exact hl) (Fh hp.pos _ _ _ _ _ _ ho) (by rw [uq];exact hs)
    · omega
theorem vG {p : Int} (hp : Pm p) (f g : List Int) (hf : Nm p f) (hg : Nm p g) (sf : Sm f.length) (sg : Sm g.length) (sfg : Sm (f.length + g.length)) :
    Ev (fun n=>aN.f n p f g) (lM p f g):=by
  unfold aN.f lM
  unfold Sm at sf sg sfg
  by_cases h1 : f.length = 0
  · rw [if_pos (Or.inl h1)]
    refine Ev.pos (by omega) ?_
    refine Ev.step (fun n=>by rw [aN.j0]) ?_
    exact Ev.pos rfl (Ev.now _)
  · refine Ev.neg (by omega) ?_
    by_cases h2 : g.length = 0
    · rw [if_pos (Or.inr h2),show ((g.length : Int) == 0) = true from by simp [h2]]
      refine Ev.step (fun n=>by rw [aN.j0]) ?_
      exact Ev.pos rfl (Ev.now _)
    · rw [if_neg (by omega),show ((g.length : Int) == 0) = false from by simp;exact fun h=>h2 (by simp [h])]
      refine Ev.step (fun n=>by rw [aN.j0]) ?_
      have e : wrap64 (wrap64 ((f.length : Int) + (g.length : Int)) - 1) = ((f.length + g.length - 1 : Nat) : Int):=by
        rw [bJ (x:=(f.length : Int) + (g.length : Int)) (by omega) (by omega),bJ (by omega) (by omega)];omega
      rw [e,jI]
      refine Ev.neg (by decide) (Ev.pos (by omega) (Ev.pos (by omega) ?_))
      exact abx hp f g hf hg f.length 0 _ (by omega) (by rw [List.length_replicate];omega) (Nm.zeros hp.pos _) (by rw [List.length_replicate];unfold Sm;omega)
theorem aby {p : Int} (hp : Pm p) (f g : List Int) (hf : Nm p f) (hg : Nm p g) (i : Nat) (hi : i < f.length) (r : List Int) (d : Nat) : ∀ (j : Nat) (o : List Int),j + d = g.length → i + g.length ≤ o.length → Nm p o → Sm o.length →
    Ev (fun n=>bB.l0 n p f g (ql p (f.getD i 0) g i d j o) (wrap64 ((i : Int) + 1))) r →
    Ev (fun n=>bB.l1 n p f g o (i : Int) (j : Int)) r:=by
  induction d with
  | zero =>
    intro j o hj hl ho hs e
    refine Ev.step (fun n=>by rw [bB.l1]) ?_
    exact Ev.neg (by omega) e
  | succ d ih =>
    intro j o hj hl ho hs e
    have hc:=hf.get (i:=i) hi
    have h1:=ho.get (i:=i + j) (by omega)
    have h2:=hg.get (i:=j) (by omega)
    have h3:=yO hp hc.1 hc.2 h2.1 h2.2
    have ht:=hp.top
    have hm:=lv hp.pos (o.getD (i + j) 0 + f.getD i 0 * g.getD j 0)
    have hs':=hs
    unfold Sm at hs'
    have hw : wrap64 ((i : Int) + (j : Int)) = ((i + j : Nat) : Int):=Yz (n:=o.length) (by omega) (by omega)
    refine Ev.step (fun n=>by rw [bB.l1]) ?_
    rw [hw]
    have c1 : (j : Int) < (g.length : Int):=by clear h1 h2 h3 hm hw e;omega
    have c2 : (0 : Int) ≤ (j : Int):=by clear h1 h2 h3 hm hw e;omega
    have c3 : (0 : Int) ≤ ((i + j : Nat) : Int):=by clear h1 h2 h3 hm hw e;omega
    have c4 : ((i + j : Nat) : Int) < (o.length : Int):=by clear h1 h2 h3 hm hw e;omega
    have c5 : (0 : Int) ≤ (i : Int):=by clear h1 h2 h3 hm hw e;omega
    have c6 : (i : Int) < (f.length : Int):=by clear h1 h2 h3 hm hw e;omega
    refine Ev.pos c1 (Ev.pos c3 (Ev.pos c4 (Ev.pos c5 (Ev.pos c6 (Ev.pos c2 (Ev.neg hp.ne ?_))))))
    rw [mV,mV,mV,bJ (x:=f.getD i 0 * g.getD j 0) (by omega) (by omega),bJ (by omega) (by omega),jY (by omega),lC (i:=j) (n:=g.length) (by clear h1 h2 h3 hm hw e;omega) (by clear h1 h2 h3 hm hw e;omega),jI]
    exact ih (j + 1) _ (by clear h1 h2 h3 hm hw e;omega) (by rw [List.length_set];clear h1 h2 h3 hm hw e;omega) (ho.set hm.1 hm.2 _) (by rw [List.length_set];exact hs) e
theorem abz {p : Int} (hp : Pm p) (f g : List Int) (hf : Nm p f) (hg : Nm p g) (d : Nat) : ∀ (i : Nat) (o : List Int),i + d = f.length → f.length + g.length ≤ o.length + 1 → Nm p o → Sm o.length →
    Ev (fun n=>bB.l0 n p f g o (i : Int)) (oU (tX p f g d i o)):=by
  induction d with
  | zero =>
    intro i o hi hl ho hs
    refine Ev.step (fun n=>by rw [bB.l0]) ?_
    exact Ev.neg (by omega) (Ev.bind (yB o hs) (Ev.now _))
  | succ d ih =>
    intro i o hi hl ho hs
    have hs':=hs
    unfold Sm at hs'
    refine Ev.step (fun n=>by rw [bB.l0]) ?_
    refine Ev.pos (by omega) ?_
    refine aby hp f g hf hg i (by omega) _ g.length 0 o (by omega) (by omega) ho hs ?_
    by_cases hg0 : f.length ≤ 4611686018427387903
    · rw [lC (i:=i) (n:=f.length) (by omega) (by omega)]
      exact ih (i + 1) _ (by omega) (by rw [uq];exact hl) (Fh hp.pos _ _ _ _ _ _ ho) (by rw [uq];exact hs)
    · omega
theorem DU {p : Int} (hp : Pm p) (f g : List Int) (hf : Nm p f) (hg : Nm p g) (sf : Sm f.length) (sg : Sm g.length) (sfg : Sm (f.length + g.length)) :
    Ev (fun n=>bB.f n p f g) (lM p f g):=by
  unfold bB.f lM
  unfold Sm at sf sg sfg
  by_cases h1 : f.length = 0
  · rw [if_pos (Or.inl h1)]
    refine Ev.pos (by omega) ?_
    refine Ev.step (fun n=>by rw [bB.j0]) ?_
    exact Ev.pos rfl (Ev.now _)
  · refine Ev.neg (by omega) ?_
    by_cases h2 : g.length = 0
    · rw [if_pos (Or.inr h2),show ((g.length : Int) == 0) = true from by simp [h2]]
      refine Ev.step (fun n=>by rw [bB.j0]) ?_
      exact Ev.pos rfl (Ev.now _)
    · rw [if_neg (by omega),show ((g.length : Int) == 0) = false from by simp;exact fun h=>h2 (by simp [h])]
      refine Ev.step (fun n=>by rw [bB.j0]) ?_
      have e : wrap64 (wrap64 ((f.length : Int) + (g.length : Int)) - 1) = ((f.length + g.length - 1 : Nat) : Int):=by
        rw [bJ (x:=(f.length : Int) + (g.length : Int)) (by omega) (by omega),bJ (by omega) (by omega)];omega
      rw [e,jI]
      refine Ev.neg (by decide) (Ev.pos (by omega) (Ev.pos (by omega) ?_))
      exact abz hp f g hf hg f.length 0 _ (by omega) (by rw [List.length_replicate];omega) (Nm.zeros hp.pos _) (by rw [List.length_replicate];unfold Sm;omega)
/- One step of a recurrence: (x - a) f - b g, and the program's function for it; no condition. -/
/-- (x - a) f - b g. -/
def zw (p a b : Int) (f g : List Int) : List Int:=Dg p (lM p [(-a) % p,1] f) g ((-b) % p)
theorem abn {p : Int} (hp : Pm p) (a b : Int) (f g : List Int) : Nm p (zw p a b f g):=Wh hp.pos (uP hp.pos _ _) _
theorem XE (p a b : Int) (f g : List Int) : (zw p a b f g).length ≤ max (f.length + 1) g.length:=by
  have h1:=QV p (lM p [(-a) % p,1] f) g ((-b) % p)
  have h2:=sS p [(-a) % p,1] f
  simp only [List.length_cons,List.length_nil] at h2
  unfold zw
  omega
theorem Zy {p : Int} (hp : Pm p) (a : Int) : Nm p [(-a) % p,1]:=by
  have:=hp.two
  exact Nm.cons (lv hp.pos _).1 (lv hp.pos _).2 (Nm.cons (by omega) (by omega) (Nm.nil p))
theorem Q3 {p a : Int} (hp : Pm p) (h : 0 ≤ a∧a < p) : wrap64 (-a) = -a:=by
  have:=hp.top
  exact bJ (by omega) (by omega)
theorem P9 {p a b : Int} (hp : Pm p) (ha : 0 ≤ a∧a < p) (hb : 0 ≤ b∧b < p) (f g : List Int) (hf : Nm p f) (hg : Nm p g) (sf : f.length ≤ 1000) (sg : g.length ≤ 1000) :
    Ev (fun n=>mo.f n p a b f g) (zw p a b f g):=by
  unfold mo.f
  have h2:=sS p [(-a) % p,1] f
  simp only [List.length_cons,List.length_nil] at h2
  rw [Q3 hp ha,Q3 hp hb]
  refine Ev.iN (Bq hp _) (Ev.bind (vG hp _ f (Zy hp a) hf (by simp [Sm]) (by unfold Sm;omega) (by simp only [List.length_cons,List.length_nil];unfold Sm;omega)) (Ev.iN (Bq hp _) (Ev.bind ?_ (Ev.now _))))
  exact JK hp (lv hp.pos _) _ g (uP hp.pos _ _) hg (by unfold Sm;omega) (by unfold Sm;omega)
theorem alb {p : Int} (hp : Pm p) : Nm p [1]:=by
  have:=hp.two
  exact Nm.cons (by omega) (by omega) (Nm.nil p)
/- Lists that begin a recurrence's step: monic stays monic; no condition. -/
theorem getD_set_ne {l : List Int} {i j : Nat} {x : Int} (h : i ≠ j) : (l.set i x).getD j 0 = l.getD j 0:=by
  rw [List.getD_eq_getElem?_getD,List.getElem?_set_ne h,List.getD_eq_getElem?_getD]
theorem Q4 {l : List Int} {i : Nat} {x : Int} (h : i < l.length) : (l.set i x).getD i 0 = x:=by
  rw [List.getD_eq_getElem?_getD,List.getElem?_set_self h];rfl
theorem Tg (p c : Int) (g : List Int) (i d : Nat) : ∀ (j : Nat) (o : List Int),i + j + d < o.length →
    (ql p c g i (d + 1) j o).getD (i + j + d) 0 = (o.getD (i + j + d) 0 + c * g.getD (j + d) 0) % p:=by
  induction d with
  | zero =>
    intro j o h
    rw [ql,ql,Nat.add_zero,Nat.add_zero,Q4 (by omega)]
  | succ d ih =>
    intro j o h
    have:=ih (j + 1) (o.set (i + j) ((o.getD (i + j) 0 + c * g.getD j 0) % p)) (by rw [List.length_set];omega)
    rw [ql,show i + j + (d + 1) = i + (j + 1) + d from by omega,this,getD_set_ne (by omega),show j + 1 + d = j + (d + 1) from by omega]
theorem XJ (p c : Int) (g : List Int) (i d : Nat) : ∀ (j t : Nat) (o : List Int),i + j + d ≤ t → (ql p c g i d j o).getD t 0 = o.getD t 0:=by
  induction d with
  | zero=>intro j t o h;rfl
  | succ d ih=>intro j t o h;rw [ql,ih (j + 1) t _ (by omega),getD_set_ne (by omega)]
theorem XK (p k : Int) (g : List Int) (d : Nat) : ∀ (i t : Nat) (o : List Int),i + d ≤ t → (wS p k g d i o).getD t 0 = o.getD t 0:=by
  induction d with
  | zero=>intro i t o h;rfl
  | succ d ih=>intro i t o h;rw [wS,ih (i + 1) t _ (by omega),getD_set_ne (by omega)]
theorem Wj {l : List Int} {n : Nat} (hl : l.length = n + 1) (h : l.getD n 0 ≠ 0) : oU l = l:=by
  have hne : l ≠ []:=by intro e;rw [e] at hl;simp at hl
  have e:=List.dropLast_concat_getLast hne
  have hlast : l.getLast hne = l.getD n 0:=by
    rw [List.getLast_eq_getElem,List.getD_eq_getElem?_getD,List.getElem?_eq_getElem (by omega)]
    simp [hl]
  rw [← e,xz _ (by rw [hlast];exact h)]
/-- Monic of degree k. -/
def Mon (f : List Int) (k : Nat) : Prop:=f.length = k + 1∧f.getD k 0 = 1
theorem XF {p : Int} (hp : Pm p) (a b : Int) (f g : List Int) (k : Nat) (hf : Mon f k) (hg : g.length ≤ k + 1) : Mon (zw p a b f g) (k + 1):=by
  have h2:=hp.two
  have e1 : (1 : Int) % p = 1:=Int.emod_eq_of_lt (by omega) (by omega)
  have hz : (List.replicate (2 + (k + 1) - 1) (0 : Int)).length = k + 2:=by rw [List.length_replicate];omega
  have ho : (ql p ((-a) % p) f 0 (k + 1) 0 (List.replicate (2 + (k + 1) - 1) 0)).length = k + 2:=by rw [uq];exact hz
  have hz0 : (List.replicate (2 + (k + 1) - 1) (0 : Int)).getD (k + 1) 0 = 0:=by
    rw [List.getD_eq_getElem?_getD,List.getElem?_replicate];split <;> rfl
  have hm : lM p [(-a) % p,1] f = ql p 1 f 1 (k + 1) 0 (ql p ((-a) % p) f 0 (k + 1) 0 (List.replicate (2 + (k + 1) - 1) 0)) ∧
      (lM p [(-a) % p,1] f).length = k + 2∧(lM p [(-a) % p,1] f).getD (k + 1) 0 = 1:=by
    have hl : (ql p 1 f 1 (k + 1) 0 (ql p ((-a) % p) f 0 (k + 1) 0 (List.replicate (2 + (k + 1) - 1) 0))).length = k + 2:=by rw [uq];exact ho
    have ht : (ql p 1 f 1 (k + 1) 0 (ql p ((-a) % p) f 0 (k + 1) 0 (List.replicate (2 + (k + 1) - 1) 0))).getD (k + 1) 0 = 1:=by
      have:=Tg p 1 f 1 k 0 (ql p ((-a) % p) f 0 (k + 1) 0 (List.replicate (2 + (k + 1) - 1) 0)) (by rw [ho];omega)
      rw [show 1 + 0 + k = k + 1 from by omega,XJ p _ f 0 (k + 1) 0 (k + 1) _ (by omega),hz0,Nat.zero_add,hf.2,Int.one_mul,Int.zero_add,e1] at this
      exact this
    have he : lM p [(-a) % p,1] f = ql p 1 f 1 (k + 1) 0 (ql p ((-a) % p) f 0 (k + 1) 0 (List.replicate (2 + (k + 1) - 1) 0)):=by
      unfold lM
      rw [if_neg (by rw [hf.1];simp),hf.1]
      show oU (tX p [(-a) % p,1] f 2 0 (List.replicate (2 + (k + 1) - 1) 0)) = _
      rw [tX,tX,tX,hf.1]
      have hq:=Wj hl (by rw [ht];decide)
      exact hq
    rw [he]
    exact ⟨rfl,hl,ht⟩
  have hmx : max (lM p [(-a) % p,1] f).length g.length = k + 2:=by rw [hm.2.1];omega
  have hl2 : (wS p ((-b) % p) g g.length 0 (u6 (lM p [(-a) % p,1] f) (k + 2))).length = k + 2:=by rw [LU,vP _ (by rw [hm.2.1];omega)]
  have ht2 : (wS p ((-b) % p) g g.length 0 (u6 (lM p [(-a) % p,1] f) (k + 2))).getD (k + 1) 0 = 1:=by
    rw [XK _ _ _ _ _ _ _ (by omega),u6,hm.2.1,Nat.sub_self,List.replicate_zero,List.append_nil,hm.2.2]
  unfold zw Dg
  rw [hmx,Wj hl2 (by rw [ht2];decide)]
  exact ⟨hl2,ht2⟩
/- Coefficients: a product's are the convolution's rests, trimmed lists of the same coefficients are the same, products commute; no condition. -/
theorem BX (l : List Int) (k : Nat) : (oU l).getD k 0 = l.getD k 0:=by
  obtain ⟨n,h⟩:=Jj l
  have e : l.getD k 0 = (oU l ++ List.replicate n 0).getD k 0:=congrArg (fun x=>x.getD k 0) h
  rw [e]
  simp only [List.getD_eq_getElem?_getD]
  by_cases hk : k < (oU l).length
  · rw [List.getElem?_append_left hk]
  · rw [List.getElem?_append_right (by omega),List.getElem?_eq_none (by omega)]
    by_cases h2 : k - (oU l).length < n
    · rw [List.getElem?_replicate,if_pos h2];rfl
    · rw [List.getElem?_replicate,if_neg h2]
theorem LV (n : Nat) : ∀ l : List Int,l.length = n → 0 < (oU l).length → (oU l).getD ((oU l).length - 1) 0 ≠ 0:=by
  induction n with
  | zero =>
    intro l hl h
    rw [List.length_eq_zero_iff.1 hl,Ji] at h
    exact absurd h (by simp)
  | succ n ih =>
    intro l hl
    have hne : l ≠ []:=fun e=>by rw [e] at hl;simp at hl
    have hd:=List.dropLast_concat_getLast hne
    have hln : l.dropLast.length = n:=by rw [List.length_dropLast];omega
    generalize l.dropLast = a at hd hln
    generalize l.getLast hne = x at hd
    subst hd
    by_cases hx : x = 0
    · subst hx
      rw [uG]
      exact ih a hln
    · rw [xz a hx]
      intro _
      simp [hx]
theorem Q5 {l m : List Int} (h : ∀ k,l.getD k 0 = m.getD k 0) : oU l = oU m:=by
  have hg : ∀ k,(oU l).getD k 0 = (oU m).getD k 0:=fun k=>by rw [BX,BX,h k]
  have zero : ∀ (a : List Int) (k : Nat),a.length ≤ k → a.getD k 0 = 0:=fun a k hk=>by rw [List.getD_eq_getElem?_getD,List.getElem?_eq_none hk];rfl
  have hlen : (oU l).length = (oU m).length:=by
    rcases Nat.lt_trichotomy (oU l).length (oU m).length with g | g | g
    · have h1:=LV _ m rfl (by omega)
      rw [← hg,zero _ _ (by omega)] at h1
      exact absurd rfl h1
    · exact g
    · have h1:=LV _ l rfl (by omega)
      rw [hg,zero _ _ (by omega)] at h1
      exact absurd rfl h1
  apply List.ext_getElem hlen
  intro i h1 h2
  have h3:=hg i
  rw [List.getD_eq_getElem?_getD,List.getD_eq_getElem?_getD,List.getElem?_eq_getElem h1,List.getElem?_eq_getElem h2] at h3
  exact h3
/-- The number k of x^i g. -/
def sh (g : List Int) (i k : Nat) : Int:=if i ≤ k then g.getD (k - i) 0 else 0
theorem BU (a : List Int) {k : Nat} (hk : a.length ≤ k) : a.getD k 0 = 0:=by rw [List.getD_eq_getElem?_getD,List.getElem?_eq_none hk];rfl
theorem Wl (o : List Int) (n k : Nat) (x : Int) (hn : n < o.length) : (o.set n x).getD k 0 = if k = n then x else o.getD k 0:=by
  simp only [List.getD_eq_getElem?_getD]
  by_cases h : k = n
  · subst h;rw [List.getElem?_set_self hn,if_pos rfl];rfl
  · rw [List.getElem?_set_ne (Ne.symm h),if_neg h]
theorem XL (p c : Int) (g : List Int) (i d : Nat) : ∀ (j : Nat) (o : List Int),j + d = g.length → i + g.length ≤ o.length → ∀ k,(ql p c g i d j o).getD k 0 = if i + j ≤ k∧k < i + g.length then (o.getD k 0 + c * g.getD (k - i) 0) % p else o.getD k 0:=by
  induction d with
  | zero =>
    intro j o hj ho k
    rw [ql,if_neg (by omega)]
  | succ d ih =>
    intro j o hj ho k
    rw [ql,ih (j + 1) _ (by omega) (by rw [List.length_set];exact ho) k,Wl _ _ _ _ (by omega)]
    by_cases h1 : k = i + j
    · rw [if_neg (by omega),if_pos h1,if_pos (by omega),h1,show i + j - i = j from by omega]
    · rw [if_neg h1]
      by_cases h2 : i + (j + 1) ≤ k∧k < i + g.length
      · rw [if_pos h2,if_pos (by omega)]
      · rw [if_neg h2,if_neg (by omega)]
theorem abA {p : Int} (hp : 0 < p) (c : Int) (g : List Int) (i : Nat) (o : List Int) (ho : i + g.length ≤ o.length) (hn : Nm p o) (k : Nat) : (ql p c g i g.length 0 o).getD k 0 = (o.getD k 0 + c * sh g i k) % p:=by
  rw [XL p c g i g.length 0 o (by omega) ho k,sh]
  have hb:=hn.DL hp k
  by_cases h : i ≤ k
  · rw [if_pos h]
    by_cases h2 : k < i + g.length
    · rw [if_pos (by omega)]
    · rw [if_neg (by omega),BU g (k:=k - i) (by omega),Int.mul_zero,Int.add_zero,Int.emod_eq_of_lt hb.1 hb.2]
  · rw [if_neg (by omega),if_neg h,Int.mul_zero,Int.add_zero,Int.emod_eq_of_lt hb.1 hb.2]
theorem OH (a b p : Int) : (a % p + b) % p = (a + b) % p:=by rw [Int.add_emod,Int.emod_emod,← Int.add_emod]
theorem XM {g : Nat → Int} {n : Nat} (h : ∀ i,i < n → g i = 0) : sumTo g n = 0:=by
  induction n with
  | zero=>rfl
  | succ n ih=>rw [sumTo,ih (fun i hi=>h i (by omega)),h n (by omega),Int.add_zero]
theorem BV (h : Nat → Int) (n : Nat) : sumTo h (n + 1) = h 0 + sumTo (fun t=>h (t + 1)) n:=by
  induction n with
  | zero=>simp [sumTo]
  | succ n ih =>
    rw [sumTo,ih,sumTo,Int.add_assoc]
theorem Ti {p : Int} (hp : 0 < p) (f g : List Int) (d : Nat) : ∀ (i : Nat) (o : List Int),i + d = f.length → f.length + g.length ≤ o.length + 1 → Nm p o → ∀ k,(tX p f g d i o).getD k 0 = (o.getD k 0 + sumTo (fun t=>f.getD (i + t) 0 * sh g (i + t) k) d) % p:=by
  induction d with
  | zero =>
    intro i o hi ho hn k
    have hb:=hn.DL hp k
    rw [tX,sumTo,Int.add_zero,Int.emod_eq_of_lt hb.1 hb.2]
  | succ d ih =>
    intro i o hi ho hn k
    rw [tX,ih (i + 1) _ (by omega) (by rw [uq];exact ho) (Fh hp _ _ _ _ _ _ hn) k,abA hp _ _ _ _ (by omega) hn,OH,BV,Int.add_assoc]
    simp only [Nat.add_zero,Nat.add_assoc,Nat.add_comm 1]
theorem alc {g : List Int} {i k : Nat} (h : i + g.length ≤ k) : sh g i k = 0:=by
  rw [sh,if_pos (by omega),BU g (by omega)]
/-- A product's numbers. -/
theorem Ff {p : Int} (hp : 0 < p) (f g : List Int) (k : Nat) : (lM p f g).getD k 0 = sumTo (fun t=>f.getD t 0 * sh g t k) f.length % p:=by
  unfold lM
  split
  · rename_i h
    have hz : ∀ t,t < f.length → f.getD t 0 * sh g t k = 0:=fun t ht=>by
      rcases h with h | h
      · omega
      · have : sh g t k = 0:=by
          unfold sh
          split
          · exact BU g (by omega)
          · rfl
        rw [this,Int.mul_zero]
    rw [XM hz];simp
  · rename_i h
    rw [BX,Ti hp f g f.length 0 _ (by omega) (by rw [List.length_replicate];omega) (Nm.zeros hp _) k]
    have hz : (List.replicate (f.length + g.length - 1) (0 : Int)).getD k 0 = 0:=by
      rw [List.getD_eq_getElem?_getD,List.getElem?_replicate]
      split <;> rfl
    rw [hz,Int.zero_add]
    simp only [Nat.zero_add]
theorem Ar {h : Nat → Int} {n : Nat} (hz : ∀ t,n ≤ t → h t = 0) (d : Nat) : sumTo h (n + d) = sumTo h n:=by
  induction d with
  | zero=>rfl
  | succ d ih=>rw [← Nat.add_assoc,sumTo,ih,hz _ (by omega),Int.add_zero]
theorem sumTo_congr {g h : Nat → Int} (n : Nat) (e : ∀ t,t < n → g t = h t) : sumTo g n = sumTo h n:=by
  induction n with
  | zero=>rfl
  | succ n ih=>rw [sumTo,sumTo,ih (fun t ht=>e t (by omega)),e n (by omega)]
theorem Tj (n : Nat) : ∀ h : Nat → Int,sumTo h (n + 1) = sumTo (fun t=>h (n - t)) (n + 1):=by
  induction n with
  | zero=>intro h;simp [sumTo]
  | succ n ih =>
    intro h
    rw [BV h,ih (fun t=>h (t + 1))]
    have e : sumTo (fun t=>h (n + 1 - t)) (n + 1) = sumTo (fun t=>h (n - t + 1)) (n + 1):=sumTo_congr _ (fun t ht=>by rw [show n + 1 - t = n - t + 1 from by omega])
    have e2 : sumTo (fun t=>h (n + 1 - t)) (n + 1 + 1) = sumTo (fun t=>h (n + 1 - t)) (n + 1) + h (n + 1 - (n + 1)):=rfl
    rw [e2,e,Nat.sub_self,Int.add_comm]
/-- The convolution. -/
theorem Wm (f g : List Int) (k : Nat) : sumTo (fun t=>f.getD t 0 * sh g t k) f.length = sumTo (fun t=>f.getD t 0 * g.getD (k - t) 0) (k + 1):=by
  have h1 : ∀ t,f.length ≤ t → f.getD t 0 * sh g t k = 0:=fun t ht=>by rw [BU f ht,Int.zero_mul]
  have h2 : ∀ t,k + 1 ≤ t → f.getD t 0 * sh g t k = 0:=fun t ht=>by rw [sh,if_neg (by omega),Int.mul_zero]
  have h3 : sumTo (fun t=>f.getD t 0 * sh g t k) f.length = sumTo (fun t=>f.getD t 0 * sh g t k) (k + 1):=by
    rw [← Ar h1 (k + 1),← Ar h2 f.length,Nat.add_comm]
  rw [h3]
  exact sumTo_congr _ (fun t ht=>by rw [sh,if_pos (by omega)])
theorem F6 (p : Int) (f g : List Int) : oU (lM p f g) = lM p f g:=by
  have tt : ∀ l : List Int,oU (oU l) = oU l:=fun l=>Q5 (fun k=>BX l k)
  unfold lM
  split
  · exact Ji
  · exact tt _
theorem Lf {p : Int} (hp : 0 < p) (f g : List Int) : lM p f g = lM p g f:=by
  rw [← F6 p f g,← F6 p g f]
  refine Q5 fun k=>?_
  rw [Ff hp,Ff hp,Wm,Wm,Tj]
  congr 1
  refine sumTo_congr _ fun t ht=>?_
  rw [show k - (k - t) = t from by omega,Int.mul_comm]
/- Coefficients of a sum of polynomials. -/
theorem XN (p c : Int) (g : List Int) (d : Nat) : ∀ (i : Nat) (o : List Int),i + d ≤ o.length → ∀ j,(wS p c g d i o).getD j 0 = if i ≤ j∧j < i + d then (o.getD j 0 + c * g.getD j 0) % p else o.getD j 0:=by
  induction d with
  | zero =>
    intro i o h j
    rw [wS,if_neg (by omega)]
  | succ d ih =>
    intro i o h j
    rw [wS,ih (i + 1) _ (by rw [List.length_set];omega) j,Wl _ _ _ _ (by omega)]
    by_cases h1 : j = i
    · subst h1
      rw [if_neg (by omega),if_pos rfl,if_pos (by omega)]
    · rw [if_neg h1]
      by_cases h2 : i + 1 ≤ j∧j < i + 1 + d
      · rw [if_pos h2,if_pos (by omega)]
      · rw [if_neg h2,if_neg (by omega)]
theorem XO (f : List Int) (n j : Nat) : (u6 f n).getD j 0 = f.getD j 0:=by
  unfold u6
  simp only [List.getD_eq_getElem?_getD]
  by_cases h : j < f.length
  · rw [List.getElem?_append_left h]
  · rw [List.getElem?_append_right (by omega),List.getElem?_replicate,List.getElem?_eq_none (l:=f) (by omega)]
    split <;> rfl
theorem abB {f : List Int} {j : Nat} (h : f.length ≤ j) : f.getD j 0 = 0:=by rw [List.getD_eq_getElem?_getD,List.getElem?_eq_none h];rfl
theorem abC {p : Int} (hp : 0 < p) {f : List Int} (g : List Int) (k : Int) (hf : Nm p f) (j : Nat) : (Dg p f g k).getD j 0 = (f.getD j 0 + k * g.getD j 0) % p:=by
  unfold Dg
  rw [BX,XN p k g g.length 0 _ (by rw [vP f (by omega)];omega),XO]
  by_cases h : j < g.length
  · rw [if_pos ⟨Nat.zero_le _,by omega⟩]
  · rw [if_neg (by omega),abB (f:=g) (by omega),Int.mul_zero,Int.add_zero]
    have:=hf.DL hp j
    exact (Int.emod_eq_of_lt this.1 this.2).symm
/- Powers modulo p: what the program and the reference compute; no condition. -/
theorem Fj {p : Int} (hp : Pm p) {x y : Int} (hx : 0 ≤ x∧x < p) (hy : 0 ≤ y∧y < p) : iX.f p x y = some (x * y % p):=by
  unfold iX.f
  have h:=yO hp hx.1 hx.2 hy.1 hy.2
  rw [bJ (by omega) (by omega),Bq hp];rfl
def Ba (p : Int) : Nat → Int → Nat → Int → Int
  | 0,_,_,o=>o
  | d + 1,x,k,o=>if k = 0 then o else Ba p d (x * x % p) (k / 2) (if k % 2 = 1 then o * x % p else o)
theorem abD {p : Int} (hp : 0 < p) (d : Nat) : ∀ (x : Int) (k : Nat) (o : Int),0 ≤ o∧o < p → 0 ≤ Ba p d x k o∧Ba p d x k o < p:=by
  induction d with
  | zero=>intro x k o h;exact h
  | succ d ih =>
    intro x k o h
    rw [Ba]
    split
    · exact h
    · refine ih _ _ _ ?_
      split
      · exact lv hp _
      · exact h
theorem half {k : Nat} (h : k < 4611686018427387904) : wrap64 (Int.tdiv (k : Int) 2) = ((k / 2 : Nat) : Int):=by
  rw [Int.tdiv_eq_ediv_of_nonneg (by omega),bJ (by omega) (by omega)];omega
theorem odd (k : Nat) : Int.tmod (k : Int) 2 = ((k % 2 : Nat) : Int):=by rw [jY (by omega)];omega
theorem Tk {p : Int} (hp : Pm p) (d : Nat) : ∀ (x : Int) (k : Nat) (o : Int),k ≤ d → k < 4611686018427387904 → 0 ≤ x∧x < p → 0 ≤ o∧o < p →
    Ev (fun n=>fw.l0 n p x (k : Int) o) (Ba p d x k o):=by
  induction d with
  | zero =>
    intro x k o hk hk2 hx ho
    refine Ev.step (fun n=>by rw [fw.l0]) ?_
    exact Ev.neg (by omega) (Ev.now _)
  | succ d ih =>
    intro x k o hk hk2 hx ho
    rw [Ba]
    by_cases h : k = 0
    · rw [if_pos h]
      refine Ev.step (fun n=>by rw [fw.l0]) ?_
      exact Ev.neg (by omega) (Ev.now _)
    · rw [if_neg h]
      refine Ev.step (fun n=>by rw [fw.l0]) ?_
      refine Ev.pos (by omega) ?_
      rw [odd,half hk2]
      by_cases g : k % 2 = 1
      · rw [if_pos g]
        refine Ev.pos (by omega) (Ev.iN (Fj hp ho hx) (Ev.iN (Fj hp hx hx) ?_))
        exact ih _ _ _ (by omega) (by omega) (lv hp.pos _) (lv hp.pos _)
      · rw [if_neg g]
        refine Ev.neg (by omega) (Ev.iN (Fj hp hx hx) ?_)
        exact ih _ _ _ (by omega) (by omega) (lv hp.pos _) ho
theorem Tm {p : Int} (hp : Pm p) (d : Nat) : ∀ (x : Int) (k : Nat) (o : Int),k ≤ d → k < 4611686018427387904 → 0 ≤ x∧x < p → 0 ≤ o∧o < p →
    Ev (fun n=>fJ.l0 n p (k : Int) o x) (Ba p d x k o):=by
  induction d with
  | zero =>
    intro x k o hk hk2 hx ho
    refine Ev.step (fun n=>by rw [fJ.l0]) ?_
    refine Ev.neg (by omega) (Ev.neg hp.ne (Ev.oh ?_))
    rw [jY ho.1,Int.emod_eq_of_lt ho.1 ho.2];rfl
  | succ d ih =>
    intro x k o hk hk2 hx ho
    have h1:=yO hp hx.1 hx.2 hx.1 hx.2
    have h2:=yO hp ho.1 ho.2 hx.1 hx.2
    rw [Ba]
    by_cases h : k = 0
    · rw [if_pos h]
      refine Ev.step (fun n=>by rw [fJ.l0]) ?_
      refine Ev.neg (by omega) (Ev.neg hp.ne (Ev.oh ?_))
      rw [jY ho.1,Int.emod_eq_of_lt ho.1 ho.2]
    · rw [if_neg h]
      refine Ev.step (fun n=>by rw [fJ.l0]) ?_
      refine Ev.pos (by omega) ?_
      rw [odd,half hk2,bJ (x:=x * x) (by omega) (by omega),bJ (x:=o * x) (by omega) (by omega),jY (a:=x * x) (by omega),jY (a:=o * x) (by omega)]
      by_cases g : k % 2 = 1
      · rw [if_pos g]
        refine Ev.pos (by omega) (Ev.neg hp.ne ?_)
        exact ih _ _ _ (by omega) (by omega) (lv hp.pos _) (lv hp.pos _)
      · rw [if_neg g]
        refine Ev.neg (by omega) (Ev.neg hp.ne ?_)
        exact ih _ _ _ (by omega) (by omega) (lv hp.pos _) ho
/-- x to the k-th power modulo p. -/
def OD (p x : Int) (k : Nat) : Int:=Ba p k x k 1
theorem afF {p : Int} (hp : Pm p) (x : Int) (k : Nat) : 0 ≤ OD p x k∧OD p x k < p:=abD hp.pos _ _ _ _ (by have:=hp.two;omega)
theorem Tn {p : Int} (hp : Pm p) {x : Int} (hx : 0 ≤ x∧x < p) (k : Nat) (hk : k < 4611686018427387904) : Ev (fun n=>fw.f n p x (k : Int)) (OD p x k):=by
  have h2:=hp.two
  unfold fw.f OD
  refine Ev.iN (Bq hp _) ?_
  rw [Int.emod_eq_of_lt (by omega) (by omega)]
  exact Tk hp k x k 1 (Nat.le_refl _) hk hx (by omega)
theorem Tp {p : Int} (hp : Pm p) {x : Int} (hx : 0 ≤ x∧x < p) (k : Nat) (hk : k < 4611686018427387904) : Ev (fun n=>fJ.f n p x (k : Int)) (OD p x k):=by
  have h2:=hp.two
  unfold fJ.f OD
  refine Ev.iN (a:=x) ?_ (Tm hp k x k 1 (Nat.le_refl _) hk hx (by omega))
  unfold jB.f
  rw [if_neg hp.ne,Jh hp,Int.emod_eq_of_lt hx.1 hx.2]
/- Inverses and quotients modulo p: what the program and the reference compute; no condition. -/
/-- The power p - 2. -/
def qA (p x : Int) : Int:=OD p x (p.toNat - 2)
theorem Et {p : Int} (hp : Pm p) (x : Int) : 0 ≤ qA p x∧qA p x < p:=afF hp _ _
theorem Wn {p : Int} (hp : Pm p) : wrap64 (p - 2) = ((p.toNat - 2 : Nat) : Int):=by
  have:=hp.two
  have:=hp.top
  rw [bJ (by omega) (by omega)]
  omega
theorem Tq {p : Int} (hp : Pm p) {x : Int} (hx : 0 ≤ x∧x < p) : Ev (fun n=>kR.f n p x) (qA p x):=by
  have:=hp.top
  unfold kR.f qA
  rw [Wn hp]
  exact Ev.bind (Tn hp hx _ (by omega)) (Ev.now _)
theorem zN {p : Int} (hp : Pm p) {x : Int} (hx : 0 ≤ x∧x < p) : Ev (fun n=>gy.f n p x) (qA p x):=by
  have:=hp.top
  unfold gy.f qA
  rw [Wn hp]
  exact Ev.bind (Tp hp hx _ (by omega)) (Ev.now _)
theorem KV (c x p : Int) : (c - x % p) % p = (c - x) % p:=by
  rw [Int.sub_emod,Int.emod_emod,← Int.sub_emod]
/- Determinants modulo p by elimination, as one plain function; and a matrix in memory: a block of slices, one block a row, all of them different. No condition beside the ones named. -/
open Go Go.RowKit Go.Proofs.YtnpepkpogohcmaaGreatW.PrintWords Go.Proofs.YtnpepkpogohcmaaGreatW.PrintLast Go.Proofs.YtnpepkpogohcmaaGreatW.PrintMore
/-! ### the plain function -/
/-- The first place from i on, d places at most, whose row has a number other than 0 in column c. -/
def pivot (M : Nat → List Int) (c : Nat) : Nat → Nat → Nat
  | 0,i=>i
  | d + 1,i=>if (M i).getD c 0 = 0 then pivot M c d (i + 1) else i
def rq (M : Nat → List Int) (c j : Nat) : Nat → List Int:=fun i=>if i = c then M j else if i = j then M c else M i
def ou (p f : Int) (r own : List Int) (n : Nat) : List Int:=(List.range n).map fun k=>(r.getD k 0 - f * own.getD k 0) % p
def Br (p v : Int) (n c : Nat) (M : Nat → List Int) : Nat → List Int:=fun i=>if c < i then ou p ((M i).getD c 0 * v % p) (M i) (M c) n else M i
def uJ (p : Int) (n : Nat) : Nat → Nat → (Nat → List Int) → Int → Int
  | 0,_,_,o=>o
  | d + 1,c,M,o =>
    if pivot M c (n - c) c = n then 0
    else uJ p n d (c + 1) (Br p (qA p ((M (pivot M c (n - c) c)).getD c 0)) n c (rq M c (pivot M c (n - c) c)))
      ((if pivot M c (n - c) c = c then o else (-o) % p) * (M (pivot M c (n - c) c)).getD c 0 % p)
def Ps (p : Int) (rows : List (List Int)) : Int:=uJ p rows.length rows.length 0 (fun i=>rows.getD i []) 1
/-- Square rows of numbers modulo p. -/
def RB (p : Int) (rows : List (List Int)) : Prop:=(2 ≤ p∧p ≤ 10007)∧rows.length ≤ 1000∧∀ r ∈ rows,r.length = rows.length∧Nm p r
instance (p : Int) (rows : List (List Int)) : Decidable (RB p rows):=by unfold RB;infer_instance
theorem YB (M : Nat → List Int) (c d : Nat) : ∀ i,i ≤ pivot M c d i∧pivot M c d i ≤ i + d:=by
  induction d with
  | zero=>intro i;exact ⟨Nat.le_refl _,Nat.le_refl _⟩
  | succ d ih =>
    intro i
    rw [pivot]
    split
    · have:=ih (i + 1);omega
    · omega
theorem Bu (p f : Int) (r own : List Int) (n : Nat) : (ou p f r own n).length = n:=by simp [ou]
theorem DN {p : Int} (hp : 0 < p) (f : Int) (r own : List Int) (n : Nat) : Nm p (ou p f r own n):=fun x hx=>by
  obtain ⟨i,_,rfl⟩:=List.mem_map.1 hx
  exact lv hp _
theorem Q6 (p f : Int) (r own : List Int) {n k : Nat} (h : k < n) : (ou p f r own n).getD k 0 = (r.getD k 0 - f * own.getD k 0) % p:=by
  rw [ou,List.getD_eq_getElem?_getD,List.getElem?_map,List.getElem?_range h];rfl

/-! ### a matrix in memory -/
/-- e: the type of the rows' slices, e': of the numbers; the first m rows are there. -/
structure Mx (e e' : TypeId) (w : World) (b g n m : Nat) (β κ : Nat → Nat) (M : Nat → List Int) : Prop where
  out : w.heap[g]? = some (.cells ((List.range n).map fun i=>if i < m then Value.slice (some ⟨β i,0,none⟩) n (κ i) else Value.slice none 0 0).toArray e (0,0))
  bg : b ≤ g
  mn : m ≤ n
  len : ∀ i,i < m → (M i).length = n
  cap : ∀ i,i < m → n ≤ κ i
  bb : ∀ i,i < m → b ≤ β i
  row : ∀ i,i < m → ∃ cur : Array Value,w.heap[β i]? = some (.cells cur e' (0,0))∧∀ k,k < n → cur[k]? = some (.int .i64 ((M i).getD k 0))
  ne : ∀ i j,i < m → j < m → i ≠ j → β i ≠ β j
section
variable {e e' : TypeId} {w w1 : World} {b g n m : Nat} {β κ : Nat → Nat} {M : Nat → List Int}
theorem Mx.afG (h : Mx e e' w b g n m β κ M) (he : e ≠ e') {i : Nat} (hi : i < m) : β i ≠ g:=by
  intro eq
  obtain ⟨cur,hc,_⟩:=h.row i hi
  rw [eq,h.out] at hc
  injection hc with hc
  injection hc with _ hc
  exact he hc
theorem Mx.outer (h : Mx e e' w b g n m β κ M) {i : Nat} (hi : i < m) : w.cell? ⟨g,i,none⟩ = some (.slice (some ⟨β i,0,none⟩) n (κ i)):=by
  have hm:=h.mn
  rw [bT h.out i,List.getElem?_toArray,List.getElem?_map,List.getElem?_range (by omega)]
  simp [hi]
theorem Mx.Es (h : Mx e e' w b g n m β κ M) (i : Nat) : w.frozen? ⟨g,i,none⟩ = false:=dz h.out i
theorem Mx.cell (h : Mx e e' w b g n m β κ M) {i k : Nat} (hi : i < m) (hk : k < n) : w.cell? ⟨β i,k,none⟩ = some (.int .i64 ((M i).getD k 0)):=by
  obtain ⟨cur,hc,hr⟩:=h.row i hi
  rw [bT hc k]
  exact hr k hk
theorem Mx.frozen (h : Mx e e' w b g n m β κ M) {i : Nat} (hi : i < m) (k : Nat) : w.frozen? ⟨β i,k,none⟩ = false:=by
  obtain ⟨cur,hc,_⟩:=h.row i hi
  exact dz hc k
theorem Mx.lt (h : Mx e e' w b g n m β κ M) {i : Nat} (hi : i < m) : β i < w.heap.size:=by
  obtain ⟨cur,hc,_⟩:=h.row i hi
  exact tO hc
theorem Mx.step (h : Mx e e' w b g n m β κ M) (hm : ∀ k,b ≤ k → k < w.heap.size → w1.heap[k]? = w.heap[k]?) : Mx e e' w1 b g n m β κ M :=
  ⟨(hm g h.bg (tO h.out)).trans h.out,h.bg,h.mn,h.len,h.cap,h.bb,fun i hi=>by
    obtain ⟨cur,hc,hr⟩:=h.row i hi
    exact ⟨cur,(hm _ (h.bb i hi) (tO hc)).trans hc,hr⟩,h.ne⟩
theorem Mx.below (h : Mx e e' w b g n m β κ M) (hb : Below w.heap.size w w1) : Mx e e' w1 b g n m β κ M:=h.step fun k _ hk=>hb.block k hk
/-- A store into another block than the matrix's. -/
theorem Mx.far (h : Mx e e' w b g n m β κ M) {q : Nat} (hg : q ≠ g) (hq : ∀ i,i < m → q ≠ β i) (j : Nat) (u : Value) : Mx e e' (w.setCell ⟨q,j,none⟩ u) b g n m β κ M :=
  ⟨(Below.heap_setCell w ⟨q,j,none⟩ u g (Ne.symm hg)).trans h.out,h.bg,h.mn,h.len,h.cap,h.bb,fun i hi=>by
    obtain ⟨cur,hc,hr⟩:=h.row i hi
    exact ⟨cur,(Below.heap_setCell w ⟨q,j,none⟩ u _ (Ne.symm (hq i hi))).trans hc,hr⟩,h.ne⟩
/-- A number of a row is set. -/
theorem Mx.put (h : Mx e e' w b g n m β κ M) (he : e ≠ e') {i k : Nat} (hi : i < m) (hk : k < n) (x : Int) :
    Mx e e' (w.setCell ⟨β i,k,none⟩ (.int .i64 x)) b g n m β κ (fun t=>if t = i then (M i).set k x else M t):=by
  refine ⟨(Below.heap_setCell w ⟨β i,k,none⟩ _ g (Ne.symm (h.afG he hi))).trans h.out,h.bg,h.mn,fun t ht=>?_,h.cap,h.bb,fun t ht=>?_,h.ne⟩
  · by_cases c : t = i
    · rw [if_pos c,List.length_set];exact h.len i hi
    · rw [if_neg c];exact h.len t ht
  · by_cases c : t = i
    · subst c
      obtain ⟨cur,hc,hr⟩:=h.row t ht
      refine ⟨cur.setIfInBounds k (.int .i64 x),uL hc k _,fun j hj=>?_⟩
      have hl:=h.len t ht
      rw [if_pos rfl]
      by_cases d : k = j
      · subst d
        have hs : k < cur.size:=by
          have:=hr k hk
          exact (Array.getElem?_eq_some_iff.1 this).1
        rw [Array.getElem?_setIfInBounds_self_of_lt hs,List.getD_eq_getElem?_getD,List.getElem?_set_self (by omega)];rfl
      · rw [Array.getElem?_setIfInBounds_ne d,hr j hj,List.getD_eq_getElem?_getD,List.getD_eq_getElem?_getD,List.getElem?_set_ne d]
    · obtain ⟨cur,hc,hr⟩:=h.row t ht
      refine ⟨cur,(Below.heap_setCell w ⟨β i,k,none⟩ _ _ (h.ne t i ht hi c)).trans hc,fun j hj=>?_⟩
      rw [if_neg c]
      exact hr j hj
/-- Two rows change their places. -/
theorem Mx.swap (h : Mx e e' w b g n n β κ M) (he : e ≠ e') {c j : Nat} (hc : c < n) (hj : j < n) :
    Mx e e' ((w.setCell ⟨g,c,none⟩ (.slice (some ⟨β j,0,none⟩) n (κ j))).setCell ⟨g,j,none⟩ (.slice (some ⟨β c,0,none⟩) n (κ c))) b g n n
      (fun i=>if i = j then β c else if i = c then β j else β i) (fun i=>if i = j then κ c else if i = c then κ j else κ i) (fun i=>if i = j then M c else if i = c then M j else M i):=by
  refine ⟨?_,h.bg,Nat.le_refl _,fun i hi=>?_,fun i hi=>?_,fun i hi=>?_,fun i hi=>?_,fun i t hi ht hit=>?_⟩
  · have h1:=uL (uL h.out c (.slice (some ⟨β j,0,none⟩) n (κ j))) j (.slice (some ⟨β c,0,none⟩) n (κ c))
    rw [h1]
    congr 2
    apply Array.ext
    · simp
    · intro i h1 h2
      have hi : i < n:=by simpa using h2
      simp only [List.getElem_toArray,List.getElem_map,List.getElem_range,hi,if_true]
      by_cases c1 : i = j
      · subst c1;simp
      · by_cases c2 : i = c
        · subst c2;simp [Ne.symm c1,c1]
        · simp [Ne.symm c1,Ne.symm c2,c1,c2,hi]
  · by_cases c1 : i = j
    · rw [if_pos c1];exact h.len c hc
    · by_cases c2 : i = c
      · rw [if_neg c1,if_pos c2];exact h.len j hj
      · rw [if_neg c1,if_neg c2];exact h.len i hi
  · by_cases c1 : i = j
    · rw [if_pos c1];exact h.cap c hc
    · by_cases c2 : i = c
      · rw [if_neg c1,if_pos c2];exact h.cap j hj
      · rw [if_neg c1,if_neg c2];exact h.cap i hi
  · by_cases c1 : i = j
    · rw [if_pos c1];exact h.bb c hc
    · by_cases c2 : i = c
      · rw [if_neg c1,if_pos c2];exact h.bb j hj
      · rw [if_neg c1,if_neg c2];exact h.bb i hi
  · have far : ∀ q,q < n → ((w.setCell ⟨g,c,none⟩ (.slice (some ⟨β j,0,none⟩) n (κ j))).setCell ⟨g,j,none⟩ (.slice (some ⟨β c,0,none⟩) n (κ c))).heap[β q]? = w.heap[β q]?:=by
      intro q hq
      rw [Below.heap_setCell _ _ _ _ (h.afG he hq),Below.heap_setCell _ _ _ _ (h.afG he hq)]
    by_cases c1 : i = j
    · simp only [if_pos c1]
      obtain ⟨cur,hh,hr⟩:=h.row c hc
      exact ⟨cur,(far c hc).trans hh,hr⟩
    · by_cases c2 : i = c
      · simp only [if_neg c1,if_pos c2]
        obtain ⟨cur,hh,hr⟩:=h.row j hj
        exact ⟨cur,(far j hj).trans hh,hr⟩
      · simp only [if_neg c1,if_neg c2]
        obtain ⟨cur,hh,hr⟩:=h.row i hi
        exact ⟨cur,(far i hi).trans hh,hr⟩
  · have n1:=h.ne
    by_cases a1 : i = j
    · by_cases a2 : t = c
      · rw [if_pos a1,if_neg (by omega),if_pos a2]
        by_cases a3 : c = j
        · omega
        · exact n1 c j hc hj a3
      · rw [if_pos a1,if_neg (by omega),if_neg a2]
        by_cases a3 : c = t
        · omega
        · exact n1 c t hc ht a3
    · by_cases a2 : i = c
      · rw [if_neg a1,if_pos a2]
        by_cases a3 : t = j
        · rw [if_pos a3];exact n1 j c hj hc (by omega)
        · rw [if_neg a3,if_neg (by omega)];exact n1 j t hj ht (by omega)
      · rw [if_neg a1,if_neg a2]
        by_cases a3 : t = j
        · rw [if_pos a3];exact n1 i c hi hc a2
        · by_cases a4 : t = c
          · rw [if_neg a3,if_pos a4];exact n1 i j hi hj a1
          · rw [if_neg a3,if_neg a4];exact n1 i t hi ht hit
/-- One more row is put. -/
theorem Mx.more (h : Mx e e' w b g n m β κ M) (he : e ≠ e') (hm : m < n) {q c : Nat} {cur : Array Value} (hq : w.heap[q]? = some (.cells cur e' (0,0))) (hb : b ≤ q) (hc : n ≤ c) (l : List Int) (hl : l.length = n)
    (hr : ∀ k,k < n → cur[k]? = some (.int .i64 (l.getD k 0))) (hne : ∀ i,i < m → β i ≠ q) :
    Mx e e' (w.setCell ⟨g,m,none⟩ (.slice (some ⟨q,0,none⟩) n c)) b g n (m + 1) (fun i=>if i = m then q else β i) (fun i=>if i = m then c else κ i) (fun i=>if i = m then l else M i):=by
  have hqg : q ≠ g:=by
    intro eq
    rw [eq,h.out] at hq
    injection hq with hq
    injection hq with _ hq
    exact he hq
  refine ⟨?_,h.bg,hm,fun i hi=>?_,fun i hi=>?_,fun i hi=>?_,fun i hi=>?_,fun i j hi hj hij=>?_⟩
  · rw [uL h.out m]
    congr 2
    apply Array.ext
    · simp
    · intro i h1 h2
      have hi : i < n:=by simpa using h2
      simp only [List.getElem_toArray,List.getElem_map,List.getElem_range]
      by_cases c1 : i = m
      · subst c1;simp
      · by_cases c2 : i < m
        · simp [Ne.symm c1,c1,c2,show i < m + 1 from by omega]
        · simp [Ne.symm c1,c2,show ¬ i < m + 1 from by omega]
  · by_cases c1 : i = m
    · rw [if_pos c1];exact hl
    · rw [if_neg c1];exact h.len i (by omega)
  · by_cases c1 : i = m
    · rw [if_pos c1];exact hc
    · rw [if_neg c1];exact h.cap i (by omega)
  · by_cases c1 : i = m
    · rw [if_pos c1];exact hb
    · rw [if_neg c1];exact h.bb i (by omega)
  · by_cases c1 : i = m
    · simp only [if_pos c1]
      exact ⟨cur,(Below.heap_setCell w ⟨g,m,none⟩ _ q hqg).trans hq,hr⟩
    · simp only [if_neg c1]
      obtain ⟨cu,hh,hr'⟩:=h.row i (by omega)
      exact ⟨cu,(Below.heap_setCell w ⟨g,m,none⟩ _ _ (h.afG he (by omega))).trans hh,hr'⟩
  · by_cases c1 : i = m
    · rw [if_pos c1,if_neg (by omega)];exact Ne.symm (hne j (by omega))
    · rw [if_neg c1]
      by_cases c2 : j = m
      · rw [if_pos c2];exact hne i (by omega)
      · rw [if_neg c2];exact h.ne i j (by omega) (by omega) hij
end
/- Quotients modulo p in the program; no condition. -/
theorem zV {p : Int} (hp : Pm p) {x y : Int} (hx : 0 ≤ x∧x < p) (hy : 0 ≤ y∧y < p) : Ev (fun n=>je.f n p x y) (x * qA p y % p):=by
  unfold je.f
  exact Ev.bind (Tq hp hy) (Ev.iN (Fj hp hx (Et hp y)) (Ev.now _))
/- What the walk of the determinant leans on: a matrix as a list of rows that is read, its making, its cuts, the search for a pivot, and the callees in plain form. -/
theorem addr_add (g c j : Nat) : (⟨g,c,none⟩ : Addr).add j = ⟨g,c + j,none⟩:=by unfold Addr.add;split <;> simp_all
/-- The m rows from c on. -/
def tu (M : Nat → List Int) (c m : Nat) : List (List Int):=(List.range m).map fun j=>M (c + j)
theorem sD (M : Nat → List Int) (c m : Nat) : (tu M c m).length = m:=by simp [tu]
theorem Fp (M : Nat → List Int) (c : Nat) {m j : Nat} (h : j < m) : (tu M c m).getD j [] = M (c + j):=by
  rw [tu,List.getD_eq_getElem?_getD,List.getElem?_map,List.getElem?_range h];rfl
/-- Where the cut from c on begins. -/
def cutAt (g n c : Nat) : Addr:=if n = c then ⟨g,0,none⟩ else ⟨g,c,none⟩
section
variable {e e' : TypeId} {w w1 : World} {b g n m : Nat} {β κ : Nat → Nat} {M : Nat → List Int}
theorem Mx.aBj (h : Mx e e' w b g n m β κ M) (hn : n ≤ 1000) {i : Nat} (hi : i < m) : Kd.C (Kd.int .i64) w (some ⟨β i,0,none⟩) n (M i) :=
  ⟨h.len i hi,by omega,fun h0=>⟨_,rfl,fun j p hj=>⟨[.int .i64 p],rfl,rfl,fun t u hu=>by
    cases t with
    | zero =>
      have hl : j < n:=by have:=(List.getElem?_eq_some_iff.1 hj).1;have:=h.len i hi;omega
      have hu : Value.int .i64 p = u:=by simpa using hu
      subst hu
      have he : (⟨β i,0,none⟩ : Addr).add (j * (Kd.int .i64).sz + 0) = ⟨β i,j,none⟩:=by rw [addr_add];show (⟨β i,0 + (j * 1 + 0),none⟩ : Addr) = _;rw [show 0 + (j * 1 + 0) = j from by omega]
      rw [he,h.cell hi hl,List.getD_eq_getElem?_getD,hj];rfl
    | succ t=>simp at hu⟩⟩⟩
theorem Mx.C (h : Mx e e' w b g n n β κ M) (hn : n ≤ 1000) {c : Nat} (hc : c ≤ n) : Kd.C (Kd.slice e' (Kd.int .i64)) w (some (cutAt g n c)) (tu M c (n - c)).length (tu M c (n - c)) :=
  ⟨rfl,by rw [sD];omega,fun h0=>⟨_,rfl,fun j p hj=>by
    rw [sD] at h0
    have hl : j < n - c:=by have:=(List.getElem?_eq_some_iff.1 hj).1;rwa [sD] at this
    have hp : M (c + j) = p:=by
      have:=Fp M c hl
      rw [List.getD_eq_getElem?_getD,hj] at this
      exact this.symm
    subst hp
    have hlen:=h.len (c + j) (by omega)
    refine ⟨[.slice (some ⟨β (c + j),0,none⟩) (M (c + j)).length (κ (c + j))],rfl,⟨_,_,rfl,by rw [hlen];exact h.cap _ (by omega),by rw [hlen];exact h.aBj hn (by omega)⟩,fun t u hu=>?_⟩
    cases t with
    | zero =>
      have hu : Value.slice (some ⟨β (c + j),0,none⟩) (M (c + j)).length (κ (c + j)) = u:=by simpa using hu
      subst hu
      have he : (cutAt g n c).add (j * (Kd.slice e' (Kd.int .i64)).sz + 0) = ⟨g,c + j,none⟩:=by
        rw [cutAt,if_neg (by omega),addr_add];show (⟨g,c + (j * 1 + 0),none⟩ : Addr) = _;rw [show c + (j * 1 + 0) = c + j from by omega]
      rw [he,h.outer (show c + j < n from by omega),hlen]
    | succ t=>simp at hu⟩⟩
theorem Mx.aiJ (h : Mx e e' w b g n m β κ M) {i : Nat} (hm : m ≤ i) (hi : i < n) : w.cell? ⟨g,i,none⟩ = some (.slice none 0 0):=by
  rw [bT h.out i,List.getElem?_toArray,List.getElem?_map,List.getElem?_range hi]
  simp [show ¬ i < m from by omega]
/-- A row of one's own, its block laid open. -/
theorem Jq {e : Nat} {ok : Nat → Prop} {v : Value} {l : List Int} {base : Nat} (h : Kd.R (Kd.int .i64) e w base ok v l) (h0 : 0 < l.length) :
    ∃ q c cur,v = .slice (some ⟨q,0,none⟩) l.length c∧base ≤ q∧l.length ≤ c∧w.heap[q]? = some (.cells cur e (0,0))∧∀ k,k < l.length → cur[k]? = some (.int .i64 (l.getD k 0)):=by
  obtain ⟨q,c,rfl,hb,_,cur,hc⟩:=Kd.Bt h h0
  obtain ⟨_,hl,hC⟩:=Kd.aC h
  refine ⟨q,c,cur,rfl,hb,hl,hc,fun k hk=>?_⟩
  obtain ⟨ad,ea,hx⟩:=Kd.ik hC (k : Int) (by omega) (by omega)
  cases ea
  rw [jI,add_plain,bT hc,mV] at hx
  exact hx
end
/-- The cut from c on. -/
theorem Ul {P : Program} {t e : TypeId} (ht : P.underlying t = some (.slice e)) (hs : (P.info? e).map (fun i=>i.size) = some 1) (g n c : Nat) (hc : c ≤ n) (W : World) :
    (Instr.slice t (.slice (some ⟨g,0,none⟩) n n) (some (.int .i64 (c : Int))) none none).run P W = .ok (.slice (some (cutAt g n c)) (n - c) (n - c)) W:=by
  obtain ⟨i,hi,hsz⟩:=Option.map_eq_some_iff.1 hs
  have hel : P.elem t = e:=by simp [Program.elem,ht]
  have hu : P.underlying t = some (.slice (P.elem t)):=by rw [hel];exact ht
  rw [run_slice_l W t _ n n hu .i64 (c : Int) (Int.natCast_nonneg _) (by omega),hel]
  have hsz : i.size = 1:=hsz
  simp [sizeOf,typeInfo,hi,hsz,sliced,Result.andThen,cutAt,addr_add]
  split <;> rfl
section
variable {P : Program} {ops : Array Oper} {Q : Exit → Act → World → Prop} {rest : List Oper} {oi : Oper} {a : Act} {w : World}
set_option linter.unusedVariables false in
/-- make([][]int64, n). -/
theorem ada (N : Tmp) {t e e' : TypeId} {x y : Operand} (n : Nat) (ht : P.underlying t = some (.slice e)) (hinfo : (P.info? e).map (fun i=>(i.zero,i.size,i.bytes)) = some (some (.slice none 0 0),1,24)) (hn : n ≤ 1000) (β κ : Nat → Nat) (M : Nat → List Int)
    (h : ∀ g,g = w.heap.size → ∀ w1,Mx e e' w1 w.heap.size g n 0 β κ M → Below w.heap.size w w1 → wpList P ops Q rest (a.put oi.dst (.slice (some ⟨g,0,none⟩) n n)) w1)
    (hd : oi.dst = some N:=by rfl) (hg : oi.guard = none:=by rfl) (ho : oi.op = .makeSlice t x y:=by rfl) (hx : a.eval x = .int .i64 (n : Int):=by rfl) (hy : a.eval y = .int .i64 (n : Int):=by rfl) : wpList P ops Q (oi :: rest) a w:=by
  obtain ⟨i0,hi,hz⟩:=Option.map_eq_some_iff.1 hinfo
  simp only [Prod.mk.injEq] at hz
  obtain ⟨hz0,hz1,hz2⟩:=hz
  have hr:=run_make (P:=P) w t e i0 _ ht hi hz0 .i64 .i64 (n : Int) (n : Int) (by omega) (by omega) (by rw [hz2];omega) (by omega)
  simp only [Int.toNat_natCast] at hr
  rw [hz1] at hr
  refine Kd.F9 hg (w1:=w.alloc (.cells (madeCells (Value.slice none 0 0).cells (n * 1)) e)) (v:=.slice (some ⟨w.heap.size,0,none⟩) n n) (by simp [execOp,ho,hx,hy,hr]) (h _ rfl _ ?_ (gG (Below.refl _ _) _))
  have hb:=VD w (.cells (madeCells (Value.slice none 0 0).cells (n * 1)) e)
  refine ⟨hb.trans ?_,Nat.le_refl _,Nat.zero_le _,fun i hi=>absurd hi (by omega),fun i hi=>absurd hi (by omega),fun i hi=>absurd hi (by omega),fun i hi=>absurd hi (by omega),fun i j hi=>absurd hi (by omega)⟩
  congr 2
  apply Array.ext
  · simp [madeCells]
  · intro i h1 h2
    simp [madeCells,Value.cells,Nat.mod_one]
end
/-! ### two loads of which each may come up first -/
section
variable {P : Program} {ops : Array Oper} {Q : Exit → Act → World → Prop} {S : World → Prop} {ds : List Nat} {T : Bool × List (List Nat × List Nat)} {fuel : Nat} {l : Array Bool} {a a' ai aj : Act} {w : World} {oi oj : Oper} {vi vj : Value}
theorem axT (i j : Nat) (Ni Nj : Tmp) (li lj l' : Array Bool) (HT : aa (nu .any ops = T)) (hS : S w) (h : cK P .any ops Q S ds fuel l' a' w)
    (hi : ops[i]? = some oi:=by rfl) (hj : ops[j]? = some oj:=by rfl) (hNi : oi.dst = some Ni:=by rfl) (hNj : oj.dst = some Nj:=by rfl)
    (hc : (xE T.2 l.toList == [i,j] && l.toList.set i true == li.toList && l.toList.set j true == lj.toList) = true:=by kernel_rfl)
    (hci : (xE T.2 li.toList == [j] && li.toList.set j true == l'.toList) = true:=by kernel_rfl) (hcj : (xE T.2 lj.toList == [i] && lj.toList.set i true == l'.toList) = true:=by kernel_rfl)
    (hdi : i ∉ ds:=by decide) (hdj : j ∉ ds:=by decide)
    (hwi : Region.wanted oi (yielded ops a.tmps) = true:=by rfl) (hwj : Region.wanted oj (yielded ops a.tmps) = true:=by rfl)
    (ri : (execOp a.eval oi).run P w = .ok (.value vi) w:=by (go_simp;with_reducible rfl)) (rj : (execOp a.eval oj).run P w = .ok (.value vj) w:=by (go_simp;with_reducible rfl))
    (hai : a.put (some Ni) vi = ai:=by (simp only [Act.put,ls,lz,ln,iI,kz];rfl)) (haj : a.put (some Nj) vj = aj:=by (simp only [Act.put,ls,lz,ln,iI,kz];rfl))
    (hwj' : Region.wanted oj (yielded ops ai.tmps) = true:=by rfl) (hwi' : Region.wanted oi (yielded ops aj.tmps) = true:=by rfl)
    (rj' : (execOp ai.eval oj).run P w = .ok (.value vj) w:=by first | (go_simp;done) | (go_simp;with_reducible rfl)) (ri' : (execOp aj.eval oi).run P w = .ok (.value vi) w:=by first | (go_simp;done) | (go_simp;with_reducible rfl))
    (h1 : ai.put (some Nj) vj = a':=by (simp only [Act.put,ls,lz,ln,iI,kz];rfl)) (h2 : aj.put (some Ni) vi = a':=by first | (simp only [Act.put,ls,lz,ln,iI,kz];done) | (simp only [Act.put,ls,lz,ln,iI,kz];rfl)) : cK P .any ops Q S ds (fuel + 2) l a w:=by
  subst hai
  subst haj
  exact Ye li lj hi hj hNi hNj (Md HT.out hc) hdi hdj (fun K hK=>FH hwi hNi ri (hK.out _ _ hS (fun _=>lo_ j Nj l' HT hS h hj hNj hci hdj hwj' rj' h1)))
    (fun K hK=>FH hwj hNj rj (hK.out _ _ hS (fun _=>lo_ i Ni l' HT hS h hi hNi hcj hdi hwi' ri' h2)))
end
theorem Mx.RD {e e' : TypeId} {w : World} {b g n m : Nat} {β κ : Nat → Nat} {M : Nat → List Int} (h : Mx e e' w b g n m β κ M) {q : Nat} {cs : Array Value} {t : TypeId} (hb : w.heap[q]? = some (.cells cs t (0,0))) (h1 : t ≠ e) (h2 : t ≠ e') : q ≠ g∧∀ i,i < m → q ≠ β i :=
  ⟨RP hb h.out h1,fun i hi=>by
    obtain ⟨cur,hc,_⟩:=h.row i hi
    exact RP hb hc h2⟩
theorem Mx.congr {e e' : TypeId} {w : World} {b g n m : Nat} {β κ : Nat → Nat} {M M' : Nat → List Int} (h : Mx e e' w b g n m β κ M) (hM : ∀ i,i < m → M i = M' i) : Mx e e' w b g n m β κ M' :=
  ⟨h.out,h.bg,h.mn,fun i hi=>by rw [← hM i hi];exact h.len i hi,h.cap,h.bb,fun i hi=>by rw [← hM i hi];exact h.row i hi,h.ne⟩
theorem WS {g n c : Nat} (h : c < n) (j : Nat) : (cutAt g n c).add j = ⟨g,c + j,none⟩:=by rw [cutAt,if_neg (by omega),addr_add]
/-! ### a row of which the first k numbers are done -/
def ru (p f : Int) (r own : List Int) (n k : Nat) : List Int:=(List.range n).map fun q=>if q < k then (r.getD q 0 - f * own.getD q 0) % p else r.getD q 0
theorem BZ (p f : Int) (r own : List Int) (n k : Nat) : (ru p f r own n k).length = n:=by simp [ru]
theorem Pv (p f : Int) (r own : List Int) {n k q : Nat} (h : q < n) : (ru p f r own n k).getD q 0 = if q < k then (r.getD q 0 - f * own.getD q 0) % p else r.getD q 0:=by
  rw [ru,List.getD_eq_getElem?_getD,List.getElem?_map,List.getElem?_range h];rfl
theorem MV (p f : Int) {r : List Int} (own : List Int) {n : Nat} (h : r.length = n) : ru p f r own n 0 = r:=by
  subst h
  apply List.ext_getElem (BZ _ _ _ _ _ _)
  intro i h1 h2
  simp [ru,List.getD_eq_getElem?_getD,List.getElem?_eq_getElem h2]
theorem Px (p f : Int) (r own : List Int) (n : Nat) : ru p f r own n n = ou p f r own n:=by
  unfold ru ou
  refine List.map_congr_left fun q hq=>?_
  rw [if_pos (List.mem_range.1 hq)]
theorem Pw (p f : Int) (r own : List Int) (n k : Nat) : (ru p f r own n k).set k ((r.getD k 0 - f * own.getD k 0) % p) = ru p f r own n (k + 1):=by
  apply List.ext_getElem (by rw [List.length_set,BZ,BZ])
  intro i h1 h2
  rw [List.getElem_set]
  by_cases hi : k = i
  · subst hi
    rw [if_pos rfl]
    simp [ru]
  · rw [if_neg hi]
    simp only [ru,List.getElem_map,List.getElem_range]
    by_cases hk : i < k
    · rw [if_pos hk,if_pos (by omega)]
    · rw [if_neg hk,if_neg (by omega)]
/-! ### the search -/
theorem afH {l : List Int} {c : Nat} (h : c < l.length) : gK.f l (c : Int) = some (l.getD c 0 != 0):=by
  unfold gK.f
  rw [if_pos (by omega),if_pos (by omega),mV]
theorem afI (M : Nat → List Int) (c m : Nat) (hm : m ≤ 1000) (hl : ∀ j,j < m → c < (M (c + j)).length) (d : Nat) : ∀ i,i + d = m →
    bQ.l0 (d + 1) (tu M c m) (fun z=>gK.f z (c : Int)) (m : Int) (i : Int) = some (if pivot M c d (c + i) = c + m then -1 else ((pivot M c d (c + i) - c : Nat) : Int)):=by
  induction d with
  | zero =>
    intro i hi
    rw [bQ.l0,if_neg (by omega),pivot,if_pos (by omega)]
  | succ d ih =>
    intro i hi
    rw [bQ.l0,if_pos (by omega),if_pos (by omega),if_pos (by rw [sD];omega),uF,Fp _ _ (by omega),afH (hl i (by omega)),Option.bind_some,pivot]
    by_cases h0 : (M (c + i)).getD c 0 = 0
    · rw [if_neg (by simp only [h0];decide),if_pos h0,lC (n:=1001) (by omega) (by omega)]
      exact ih (i + 1) (by omega)
    · rw [if_pos (bne_iff_ne.2 h0),if_neg h0,if_neg (by omega),show c + i - c = i from by omega]
theorem abE (M : Nat → List Int) (c m : Nat) (hm : m ≤ 1000) (hl : ∀ j,j < m → c < (M (c + j)).length) :
    bQ.f (m + 1) (tu M c m) (fun z=>gK.f z (c : Int)) = some (if pivot M c m c = c + m then -1 else ((pivot M c m c - c : Nat) : Int)):=by
  unfold bQ.f
  rw [sD]
  exact afI M c m hm hl m 0 (by omega)
/-! ### the callees -/
theorem FO {p : Int} (hp : Pm p) (x : Int) (w : World) : Calls Tryz.prog 54 #[.int .i64 p,.int .i64 x] w fun e w'=>e = .returned (.int .i64 (x % p))∧aQ w w' :=
  dX.calls p x _ w (Bq hp x)
theorem RL {p : Int} (hp : Pm p) {x y : Int} (h : x % p = y) (w : World) : Calls Tryz.prog 54 #[.int .i64 p,.int .i64 x] w fun e w'=>e = .returned (.int .i64 y)∧aQ w w' :=
  h ▸ FO hp x w
theorem XP {p : Int} (hp : Pm p) {x y : Int} (hx : 0 ≤ x∧x < p) (hy : 0 ≤ y∧y < p) (w : World) : Calls Tryz.prog 85 #[.int .i64 p,.int .i64 x,.int .i64 y] w fun e w'=>e = .returned (.int .i64 (x * y % p))∧aQ w w' :=
  iX.calls p x y _ w (Fj hp hx hy)
theorem XQ {p : Int} (hp : Pm p) {x y : Int} (hx : 0 ≤ x∧x < p) (hy : 0 ≤ y∧y < p) (w : World) : Calls Tryz.prog 70 #[.int .i64 p,.int .i64 x,.int .i64 y] w fun e w'=>e = .returned (.int .i64 (x * qA p y % p))∧aQ w w':=by
  obtain ⟨K,h⟩:=zV hp hx hy
  exact je.calls K p x y _ w (h K (Nat.le_refl _))
theorem RF {w : World} {b g n c gq : Nat} {β κ : Nat → Nat} {M : Nat → List Int} {v : Int} (h : Mx 24 2 w b g n n β κ M) (hn : n ≤ 1000) (hc : c < n) (hbox : w.heap[gq]? = some (.cells #[.int .i64 (c : Int)] 3 (0,0)))
    (hv : v = if pivot M c (n - c) c = n then -1 else ((pivot M c (n - c) c - c : Nat) : Int)) :
    Calls Tryz.prog 93 #[.slice (some (cutAt g n c)) (n - c) (n - c),.func (.func 104) #[] #[.pointer (some ⟨gq,0,none⟩)]] w fun e w'=>e = .returned (.int .i64 v)∧Below w.heap.size w w':=by
  have hl : ∀ j,j < n - c → c < (M (c + j)).length:=fun j hj=>by rw [h.len (c + j) (by omega)];exact hc
  have hf:=abE M c (n - c) (by omega) hl
  rw [show c + (n - c) = n from by omega,← hv] at hf
  have hC:=h.C hn (Nat.le_of_lt hc)
  have hlen:=sD M c (n - c)
  refine cz (args':=#[.slice (some (cutAt g n c)) (tu M c (n - c)).length (n - c),.func (.func 104) #[] #[.pointer (some ⟨gq,0,none⟩)]]) (by rw [hlen]) ?_
  refine bQ.calls (n - c + 1) _ _ (tu M c (n - c)) _ (fun z=>gK.f z (c : Int)) v w hC (by rw [hlen];exact Nat.le_refl _) ?_ hf
  refine FnL.of Tryz.func104 (by kernel_rfl) rfl (fun z r A c0 hr W hW hCz hc0=>cz (args':=#[.slice A z.length c0,.pointer (some ⟨gq,0,none⟩)]) (by simp) ?_)
  refine (gK.calls A c0 z gq (c : Int) r W hCz hc0 (bM hbox hW) hr).mono ?_
  rintro e w' ⟨rfl,⟨nd,rfl⟩⟩
  exact ⟨rfl,aZ (Below.refl _ _) _⟩
theorem RG {p : Int} (hp : Pm p) {x y z : Int} (hx : 0 ≤ x∧x < p) (hy : 0 ≤ y∧y < p) (h : x * y % p = z) (w : World) : Calls Tryz.prog 85 #[.int .i64 p,.int .i64 x,.int .i64 y] w fun e w'=>e = .returned (.int .i64 z)∧aQ w w' :=
  h ▸ XP hp hx hy w
theorem RH {p : Int} (hp : Pm p) {x y z : Int} (hx : 0 ≤ x∧x < p) (hy : 0 ≤ y∧y < p) (h : x * qA p y % p = z) (w : World) : Calls Tryz.prog 70 #[.int .i64 p,.int .i64 x,.int .i64 y] w fun e w'=>e = .returned (.int .i64 z)∧aQ w w' :=
  h ▸ XQ hp hx hy w
theorem Pt {l : List Int} {n c : Nat} {A : Option Addr} {w : World} (hl : l.length = n) (h0 : 0 < n) (hn : n ≤ 1000) (hC : Kd.C (Kd.int .i64) w A n l) (hc : n ≤ c) :
    Calls Tryz.prog 103 #[.slice A n c] w fun e w'=>∃ q c' cur,e = .returned (.slice (some ⟨q,0,none⟩) n c')∧w.heap.size ≤ q∧n ≤ c'∧w'.heap[q]? = some (.cells cur 2 (0,0))∧(∀ k,k < n → cur[k]? = some (.int .i64 (l.getD k 0)))∧Below w.heap.size w w':=by
  subst hl
  refine (pQ.calls A c l l w hC hc (by unfold pQ.f;rw [if_pos (by omega)])).mono ?_
  rintro e w' ⟨v,rfl,hR,hb⟩
  obtain ⟨q,c',cur,rfl,h1,h2,h3,h4⟩:=Jq hR h0
  exact ⟨q,c',cur,rfl,h1,h2,h3,h4,hb⟩
end Go.Proofs.YtnpepkpogohcmaaGreat.Pr
