/- Texts of this session in one: what functions of the program compute, and plain facts of it, under the conditions that each theorem names. -/
import Derived.Test.YtilbjbahmilhkaaKgonals1
import Derived.Test.YtilbjbahmilhkaaKgonals2
import Derived.Test.YtilbjbahmilhkaaKgonals3
import Derived.Test.YtilbjbahmilhkaaKgonals4
import Derived.Test.YtilbjbahmilhkaaKgonals6
import Derived.Test.YtilbjbahmilhkaaKgonals8
namespace Go.Proofs.Ytilbjbahmilhkaa.Pr
/- The draws of moments and polynomials come to some value, of small length; no condition. -/
open Go Go.RowKit Go.Proofs.YtilbjbahmilhkaaW.PrintWords Go.Proofs.YtilbjbahmilhkaaW.PrintLast Go.Proofs.YtilbjbahmilhkaaW.PrintMore
section
variable {c : List Int} {i : Int}
theorem XE (s : St c i) (h : Int) : Ex (fun _=>kS.f c i h) (fun r=>St c r.2.1∧iw r.1 = true):=by
  unfold kS.f
  refine Ex.bind (Dm s h _ (by decide)) (fun r hr=>Ex.now ⟨hr.1,?_⟩)
  have e : ∀ x ∈ ([2,3,5,7,7,11,13,17,31,101,997,10007] : List Int),iw x = true:=by decide
  exact e _ hr.2
theorem ace (s : St c i) (h n : Int) : Ex (fun _=>pE.f c i h n) (fun r=>St c r.2.1):=by
  unfold pE.f
  refine Ex.bind (nO s h 14) (fun r hr=>?_)
  refine Ex.ite (fun _=>?_) (fun _=>?_)
  · exact Ex.bind (Dm hr.1 _ _ (by simp)) (fun r hr=>Ex.now hr.1)
  · exact Ex.bind (nO hr.1 _ _) (fun r hr=>Ex.now hr.1)
theorem acf (p : Int) : Ex (fun k=>pF.f k p) (fun q=>iw q = true):=by
  unfold pF.f
  refine Ex.bind (P:=fun b=>b = iw p) ⟨_,Di p,rfl⟩ (fun b hb=>Ex.ite (fun g=>Ex.now ?_) (fun _=>Ex.now (by decide)))
  rw [← hb];exact g
theorem acg (p : Int) (m : Int) (d : Nat) : ∀ (j n h : Int) (o : List Int),St c j → n ≤ (d : Int) → o.length + d ≤ 1000 → Ex (fun k=>eG.l0 k p n o m c j h) (fun r=>St c r.2.1∧r.1.length ≤ o.length + d):=by
  induction d with
  | zero =>
    intro j n h o s hn ho
    refine Ex.step (fun k=>by rw [eG.l0]) ?_
    exact Ex.neg (by omega) (Ex.now ⟨s,by dsimp only;omega⟩)
  | succ d ih =>
    intro j n h o s hn ho
    refine Ex.step (fun k=>by rw [eG.l0]) ?_
    refine Ex.ite (fun g=>?_) (fun g=>Ex.now ⟨s,by dsimp only;omega⟩)
    have hw : wrap64 (n - 1) = n - 1:=bM (by omega) (by omega)
    have next : ∀ (j' h' x : Int),St c j' → Ex (fun k=>eG.l0 k p (wrap64 (n - 1)) (o ++ [x]) m c j' h') (fun r=>St c r.2.1∧r.1.length ≤ o.length + (d + 1)):=by
      intro j' h' x s'
      rw [hw]
      refine Ex.weak (ih j' (n - 1) h' (o ++ [x]) s' (by omega) (by simp;omega)) (fun r hr=>⟨hr.1,?_⟩)
      have:=hr.2
      simp only [List.length_append,List.length_singleton] at this
      omega
    refine Ex.ite (fun _=>?_) (fun _=>?_)
    · exact Ex.bind (nO s h p) (fun r hr=>Ex.pos (by omega) (next _ _ _ hr.1))
    · refine Ex.bind (nO s h 3) (fun r hr=>?_)
      refine Ex.ite (fun _=>?_) (fun _=>?_)
      · exact Ex.bind (nO hr.1 _ p) (fun r hr=>Ex.pos (by omega) (next _ _ _ hr.1))
      · exact Ex.pos (by omega) (next _ _ _ hr.1)
theorem Ou (s : St c i) (h p : Int) (n : Int) (hn : -1000 ≤ n∧n ≤ 100) : Ex (fun k=>lF.f k c i h p n) (fun r=>St c r.2.1∧r.1.length ≤ 102):=by
  unfold lF.f
  refine Ex.bind (nO s h _) (fun r hr=>?_)
  obtain ⟨s1,h1,h2,h3⟩:=hr
  rw [bM (x:=n + 2) (by omega) (by omega)] at h2 h3
  have hb : r.1 ≤ 101:=by
    by_cases g : 1 ≤ n + 2
    · have:=h2 g;omega
    · have:=h3 (by omega);omega
  have hf : Ex (fun k=>eG.f k c r.2.1 r.2.2 p r.1) (fun r'=>St c r'.2.1∧r'.1.length ≤ 102):=by
    unfold eG.f
    refine Ex.bind (nO s1 _ 3) (fun r' hr'=>?_)
    refine Ex.weak (acg p _ 101 _ _ _ [] hr'.1 (by omega) (by simp)) (fun a ha=>⟨ha.1,?_⟩)
    have:=ha.2
    simp only [List.length_nil] at this
    omega
  refine Ex.bind hf (fun r' hr'=>?_)
  refine Ex.bind (P:=fun l=>l = oP r'.1) ⟨_,yn r'.1 (by unfold Sm;omega),rfl⟩ (fun l hl=>Ex.now ⟨hr'.1,?_⟩)
  have:=Ir r'.1
  dsimp only
  rw [hl]
  have:=hr'.2
  omega
theorem IA (p n : Int) (hn : n ≤ 100) (d : Nat) : ∀ (j h : Int) (o : List Int),St c j → o.length ≤ 100 → (n ≤ (o.length : Int)∧d = 0 ∨ (o.length : Int) + d = n) →
    Ex (fun k=>dJ.l0 k p n o (o.length : Int) c j h) (fun r=>St c r.2.1∧(r.1.length = o.length + d)):=by
  induction d with
  | zero =>
    intro j h o s ho hi
    refine Ex.step (fun k=>by rw [dJ.l0]) ?_
    exact Ex.neg (by omega) (Ex.now ⟨s,rfl⟩)
  | succ d ih =>
    intro j h o s ho hi
    refine Ex.step (fun k=>by rw [dJ.l0]) ?_
    refine Ex.pos (by omega) ?_
    have hw : wrap64 ((o.length : Int) + 1) = ((o.length + 1 : Nat) : Int):=kz (n:=1000) (by omega) (by omega)
    have next : ∀ (j' h' x : Int),St c j' → Ex (fun k=>dJ.l0 k p n (o ++ [x]) (wrap64 ((o.length : Int) + 1)) c j' h') (fun r=>St c r.2.1∧r.1.length = o.length + (d + 1)):=by
      intro j' h' x s'
      have:=ih j' h' (o ++ [x]) s' (by simp;omega) (by simp;omega)
      simp only [List.length_append,List.length_singleton] at this
      rw [hw]
      refine Ex.weak this (fun r hr=>⟨hr.1,?_⟩)
      have:=hr.2
      omega
    refine Ex.bind (nO s h _) (fun r hr=>Ex.bind (nO hr.1 _ 16) (fun r' hr'=>?_))
    exact Ex.ite (fun _=>Ex.pos (by omega) (next _ _ _ hr'.1)) (fun _=>Ex.pos (by omega) (next _ _ _ hr'.1))
theorem CF (s : St c i) (h p n : Int) (hn : n ≤ 100) : Ex (fun k=>dJ.f k c i h p n) (fun r=>St c r.2.1∧r.1.length = n.toNat):=by
  unfold dJ.f
  have e : dJ.l0 = dJ.l0:=rfl
  by_cases g : n ≤ 0
  · refine Ex.weak (IA p n hn 0 i h [] s (by simp) (.inl ⟨by simpa using g,rfl⟩)) (fun r hr=>⟨hr.1,?_⟩)
    have:=hr.2
    simp only [List.length_nil] at this
    omega
  · refine Ex.weak (IA p n hn n.toNat i h [] s (by simp) (.inr (by simp;omega))) (fun r hr=>⟨hr.1,?_⟩)
    have:=hr.2
    simp only [List.length_nil] at this
    omega
theorem XF (p x8 x9 : Int) (o : List Int) (h : Int) {j : Int} {P : List Int × Int × Int → Prop} (ho : o.length ≤ 1000)
    (hno : Ex (fun k=>bJ.l0 k p o (wrap64 (x8 - 1)) c j h) P) (hyes : Ex (fun k=>bJ.l0 k p (o ++ [x9]) (wrap64 (x8 - 1)) c j h) P) (d : Nat) : ∀ (i : Nat) (b : Bool),i + d = o.length →
    Ex (fun k=>bJ.l1 k p o x8 x9 b (i : Int) c j h) P:=by
  induction d with
  | zero =>
    intro i b hi
    refine Ex.step (fun k=>by rw [bJ.l1]) ?_
    exact Ex.neg (by omega) (Ex.ite (fun _=>hno) (fun _=>Ex.pos (by omega) hyes))
  | succ d ih =>
    intro i b hi
    refine Ex.step (fun k=>by rw [bJ.l1]) ?_
    refine Ex.pos (by omega) ?_
    rw [kz (i:=i) (n:=o.length) (by omega) (by omega)]
    exact Ex.ite (fun _=>ih (i + 1) _ (by omega)) (fun _=>Ex.pos (by omega) (ih (i + 1) _ (by omega)))
theorem XG (p : Int) (d : Nat) : ∀ (j n h : Int) (o : List Int),St c j → n ≤ (d : Int) → o.length + d ≤ 100 → Ex (fun k=>bJ.l0 k p o n c j h) (fun r=>St c r.2.1∧r.1.length ≤ o.length + d):=by
  induction d with
  | zero =>
    intro j n h o s hn ho
    refine Ex.step (fun k=>by rw [bJ.l0]) ?_
    exact Ex.neg (by omega) (Ex.now ⟨s,by dsimp only;omega⟩)
  | succ d ih =>
    intro j n h o s hn ho
    refine Ex.step (fun k=>by rw [bJ.l0]) ?_
    refine Ex.ite (fun g=>?_) (fun g=>Ex.now ⟨s,by dsimp only;omega⟩)
    have hw : wrap64 (n - 1) = n - 1:=bM (by omega) (by omega)
    refine Ex.bind (nO s h p) (fun r hr=>Ex.bind (nO hr.1 _ _) (fun r' hr'=>Ex.bind (Dm hr'.1 _ _ (by simp)) (fun r'' hr''=>?_)))
    refine XF p n r''.1 o r''.2.2 (by omega) ?_ ?_ o.length 0 false (by omega)
    · rw [hw]
      exact Ex.weak (ih _ (n - 1) _ o hr''.1 (by omega) (by omega)) (fun a ha=>⟨ha.1,by have:=ha.2;omega⟩)
    · rw [hw]
      refine Ex.weak (ih _ (n - 1) _ (o ++ [r''.1]) hr''.1 (by omega) (by simp;omega)) (fun a ha=>⟨ha.1,?_⟩)
      have:=ha.2
      simp only [List.length_append,List.length_singleton] at this
      omega
theorem XH (s : St c i) (h p : Int) : Ex (fun k=>bJ.f k c i h p 6) (fun r=>St c r.2.1∧r.1.length ≤ 7):=by
  unfold bJ.f
  refine Ex.bind (nO s h _) (fun r hr=>?_)
  obtain ⟨s1,h1,h2,_⟩:=hr
  rw [bM (x:=(6 : Int) + 1) (by omega) (by omega)] at h2
  have h2:=h2 (by omega)
  refine Ex.weak (XG p 7 _ _ _ [] s1 (by omega) (by simp)) (fun a ha=>⟨ha.1,?_⟩)
  have:=ha.2
  simp only [List.length_nil] at this
  omega
theorem amr {p : Int} (hp : p ≠ 0) (nodes : List Int) (n : Int) (o : List Int) (ho : o.length ≤ 1000) (q : Nat) {P : Int × List Int → Prop} (hq : nodes.length = q) (hq2 : q ≤ 100) (x11 : Int)
    (k : ∀ (ws' : List Int) (s : Int),ws'.length = q → Ex (fun k=>eF.l0 k p nodes n ws' (wrap64 (x11 + 1)) p (o ++ [s])) P) (d : Nat) : ∀ (i : Nat) (s : Int) (ws' : List Int),ws'.length = q → i + d = q →
    Ex (fun k=>eF.l1 k p nodes n ws' x11 s (i : Int) p o) P:=by
  induction d with
  | zero =>
    intro i s ws' hw hi
    refine Ex.step (fun k=>by rw [eF.l1]) ?_
    exact Ex.neg (by omega) (Ex.pos (by omega) (k ws' s hw))
  | succ d ih =>
    intro i s ws' hw hi
    refine Ex.step (fun k=>by rw [eF.l1]) ?_
    refine Ex.pos (by omega) (Ex.pos (by omega) (Ex.pos (by omega) (Ex.neg hp ?_)))
    rw [kz (i:=i) (n:=q) (by omega) (by omega)]
    exact ih (i + 1) _ _ (by rw [List.length_set];exact hw) (by omega)
theorem ae4 {p : Int} (hp : p ≠ 0) (nodes : List Int) (n : Int) (q : Nat) (hq : nodes.length = q) (hq2 : q ≤ 100) (d : Nat) : ∀ (o ws : List Int),ws.length = q → o.length + d ≤ 100 → (n ≤ (o.length : Int)∧d = 0 ∨ (o.length : Int) + d = n) →
    Ex (fun k=>eF.l0 k p nodes n ws (o.length : Int) p o) (fun r=>r.2.length = o.length + d):=by
  induction d with
  | zero =>
    intro o ws hw ho hi
    refine Ex.step (fun k=>by rw [eF.l0]) ?_
    exact Ex.neg (by omega) (Ex.now rfl)
  | succ d ih =>
    intro o ws hw ho hi
    refine Ex.step (fun k=>by rw [eF.l0]) ?_
    refine Ex.pos (by omega) ?_
    refine amr hp nodes n o (by omega) q hq hq2 _ (fun ws' s hw'=>?_) q 0 0 ws hw (by omega)
    rw [kz (i:=o.length) (n:=1000) (by omega) (by omega)]
    have:=ih (o ++ [s]) ws' hw' (by simp;omega) (by simp;omega)
    simp only [List.length_append,List.length_singleton] at this
    exact Ex.weak this (fun r hr=>by omega)
theorem ams {p : Int} (hp : p ≠ 0) (nodes ws : List Int) (n : Int) (hq : ws.length = nodes.length) (hq2 : nodes.length ≤ 100) (hn : n ≤ 100) : Ex (fun k=>eF.f k p nodes ws n) (fun r=>r.2.length ≤ 100):=by
  unfold eF.f
  refine Ex.bind (P:=fun l=>l = ws) (Ex.eq (Il ws (by unfold Sm;omega)) rfl) (fun l hl=>?_)
  subst hl
  by_cases g : n ≤ 0
  · refine Ex.weak (ae4 hp nodes n nodes.length rfl hq2 0 [] l hq (by simp) (.inl ⟨by simpa using g,rfl⟩)) (fun r hr=>?_)
    simp only [List.length_nil] at hr
    omega
  · refine Ex.weak (ae4 hp nodes n nodes.length rfl hq2 n.toNat [] l hq (by simp;omega) (.inr (by simp;omega))) (fun r hr=>?_)
    simp only [List.length_nil] at hr
    omega
end
theorem ach (l : List Int) (hl : l.length ≤ 1000) (d : Nat) : ∀ (o : List Int),o.length + d = l.length → Ex (fun k=>jq.l0 k l o ((d : Int) - 1)) (fun r=>r.length = l.length):=by
  induction d with
  | zero =>
    intro o ho
    refine Ex.step (fun k=>by rw [jq.l0]) ?_
    exact Ex.neg (by omega) (Ex.now (by omega))
  | succ d ih =>
    intro o ho
    refine Ex.step (fun k=>by rw [jq.l0]) ?_
    refine Ex.pos (by omega) (Ex.pos (by omega) (Ex.pos (by omega) (Ex.pos (by omega) ?_)))
    rw [bM (x:=((d + 1 : Nat) : Int) - 1 - 1) (by omega) (by omega),show ((d + 1 : Nat) : Int) - 1 - 1 = (d : Int) - 1 from by omega]
    exact ih _ (by simp;omega)
theorem aci (l : List Int) (hl : l.length ≤ 1000) : Ex (fun k=>jq.f k l) (fun r=>r.length = l.length):=by
  unfold jq.f
  rw [bM (by omega) (by omega)]
  exact ach l hl l.length [] (by simp)
theorem ahL {p : Int} (hp : p ≠ 0) (n : Nat) (a b : List Int) (ha : n ≤ a.length) (hb : n ≤ b.length) (hn : n ≤ 1000) (d : Nat) : ∀ (i : Nat) (s : Int),i + d = n → Ex (fun k=>jh.l0 k p (n : Int) a b s (i : Int)) (fun _=>True):=by
  induction d with
  | zero =>
    intro i s hi
    refine Ex.step (fun k=>by rw [jh.l0]) ?_
    exact Ex.neg (by omega) (Ex.now trivial)
  | succ d ih =>
    intro i s hi
    refine Ex.step (fun k=>by rw [jh.l0]) ?_
    refine Ex.pos (by omega) (Ex.pos (by omega) (Ex.pos (by omega) (Ex.pos (by omega) (Ex.neg hp ?_))))
    rw [kz (i:=i) (n:=n) (by omega) (by omega)]
    exact ih (i + 1) _ (by omega)
theorem XI {p : Int} (hp : p ≠ 0) (n : Nat) (a b : List Int) (ha : n ≤ a.length) (hb : n ≤ b.length) (hn : n ≤ 1000) : Ex (fun k=>jh.f k p (n : Int) a b) (fun _=>True):=by
  unfold jh.f
  exact Ex.ite (fun _=>Ex.neg hp (Ex.now trivial)) (fun _=>ahL hp n a b ha hb hn n 0 0 (by omega))
theorem VR {p : Int} (hp : p ≠ 0) (l : List Int) (hl : l.length ≤ 1000) (d : Nat) : ∀ (i : Nat) (o : List Int),1 ≤ i → i + d = l.length → o.length = i → Ex (fun k=>dU.l0 k p l o (i : Int)) (fun r=>r.length = l.length + 1):=by
  induction d with
  | zero =>
    intro i o h1 hi ho
    refine Ex.step (fun k=>by rw [dU.l0]) ?_
    exact Ex.neg (by omega) (Ex.neg hp (Ex.pos (by omega) (Ex.now (by simp;omega))))
  | succ d ih =>
    intro i o h1 hi ho
    refine Ex.step (fun k=>by rw [dU.l0]) ?_
    rw [Te (i:=i) (by omega) (by omega),kz (i:=i) (n:=l.length) (by omega) (by omega)]
    refine Ex.pos (by omega) (Ex.pos (by omega) (Ex.pos (by omega) (Ex.pos (by omega) (Ex.neg hp (Ex.pos (by omega) ?_)))))
    exact ih (i + 1) _ (by omega) (by omega) (by simp;omega)
theorem VS {p : Int} (hp : p ≠ 0) (l : List Int) (h1 : 1 ≤ l.length) (hl : l.length ≤ 1000) : Ex (fun k=>dU.f k p l) (fun r=>r.length = l.length + 1):=by
  unfold dU.f
  exact Ex.neg hp (VR hp l hl (l.length - 1) 1 _ (by omega) (by omega) rfl)
theorem XJ {p : Int} (hp : p ≠ 0) (d : Nat) : ∀ (n a b : Int),n ≤ (d : Int) → d ≤ 100000 → Ex (fun k=>fH.l0 k p n a b) (fun _=>True):=by
  induction d with
  | zero =>
    intro n a b hn _
    refine Ex.step (fun k=>by rw [fH.l0]) ?_
    exact Ex.neg (by omega) (Ex.neg hp (Ex.now trivial))
  | succ d ih =>
    intro n a b hn hd
    refine Ex.step (fun k=>by rw [fH.l0]) ?_
    refine Ex.ite (fun g=>?_) (fun _=>Ex.neg hp (Ex.now trivial))
    have e : wrap64 (Int.tdiv n 2) = n / 2:=by
      rw [Int.tdiv_eq_ediv_of_nonneg (by omega),bM (by omega) (by omega)]
    rw [e]
    exact Ex.ite (fun _=>Ex.neg hp (ih _ _ _ (by omega) (by omega))) (fun _=>Ex.neg hp (ih _ _ _ (by omega) (by omega)))
theorem QC {p : Int} (hp : Pm p) (x : Int) : Ex (fun k=>iA.f k p x) (fun _=>True):=by
  have ht:=hp.top
  have h2:=hp.two
  unfold iA.f fH.f
  refine Ex.bind (P:=fun _=>True) (Ex.bind (P:=fun _=>True) (Ex.eq (Gr hp x) trivial) (fun a _=>?_)) (fun a _=>Ex.now trivial)
  rw [bM (by omega) (by omega)]
  exact XJ hp.ne 100000 _ _ _ (by omega) (by omega)
def XK (name : ByteArray) : Prop:=name.toList = ([117,110,105,102,111,114,109] : List UInt8) ∨ name.toList = ([108,97,103,117,101,114,114,101] : List UInt8) ∨ name.toList = ([104,101,114,109,105,116,101] : List UInt8) ∨ name.toList = ([99,97,116,97,108,97,110] : List UInt8)
theorem Ov {p : Int} (hp : Pm p) (name : ByteArray) (n : Int) (hn : n ≤ 100) (d : Nat) : ∀ (o row : List Int),o.length ≤ 100 → (row.length = max o.length 1 ∨ XK name) → (n ≤ (o.length : Int)∧d = 0 ∨ (o.length : Int) + d = n) →
    Ex (fun k=>dX.l0 k name p n o row (o.length : Int)) (fun r=>r.1.length ≤ 200):=by
  have ht:=hp.top
  have h2:=hp.two
  induction d with
  | zero =>
    intro o row ho hr hi
    refine Ex.step (fun k=>by rw [dX.l0]) ?_
    exact Ex.neg (by omega) (Ex.now (by dsimp only;omega))
  | succ d ih =>
    intro o row ho hr hi
    refine Ex.step (fun k=>by rw [dX.l0]) ?_
    refine Ex.pos (by omega) ?_
    have hw : wrap64 ((o.length : Int) + 1) = ((o.length + 1 : Nat) : Int):=kz (n:=1000) (by omega) (by omega)
    have next : ∀ (x : Int) (row' : List Int),row'.length = o.length + 1 ∨ XK name → Ex (fun k=>dX.l0 k name p n (o ++ [x]) row' (wrap64 ((o.length : Int) + 1))) (fun r=>r.1.length ≤ 200):=by
      intro x row' hr'
      have:=ih (o ++ [x]) row' (by simp;omega) (hr'.imp (fun g=>by simp;omega) id) (by simp;omega)
      simp only [List.length_append,List.length_singleton] at this
      rw [hw]
      exact this
    refine Ex.ite (fun g1=>?_) (fun g1=>?_)
    · refine Ex.neg hp.ne (Ex.ite (fun _=>Ex.now (by dsimp only;simp)) (fun _=>?_))
      exact Ex.bind (QC hp _) (fun a _=>Ex.pos (by omega) (next _ _ (.inr (.inl g1))))
    refine Ex.ite (fun g2=>?_) (fun g2=>?_)
    · refine Ex.ite (fun g=>?_) (fun _=>Ex.pos (by omega) (next _ _ (.inr (.inr (.inl g2)))))
      rw [bM (x:=(o.length : Int) - 1) (by omega) (by omega)]
      exact Ex.pos (by omega) (Ex.pos (by omega) (Ex.neg hp.ne (Ex.pos (by omega) (next _ _ (.inr (.inr (.inl g2)))))))
    refine Ex.ite (fun g3=>?_) (fun g3=>?_)
    · refine Ex.ite (fun _=>Ex.pos (by omega) (next _ _ (.inr (.inr (.inr (.inl g3)))))) (fun g=>?_)
      refine Ex.ite (fun g'=>?_) (fun _=>Ex.pos (by omega) (next _ _ (.inr (.inr (.inr (.inl g3))))))
      rw [lC (by omega)] at g'
      rw [bM (x:=(o.length : Int) - 2) (by omega) (by omega)]
      exact Ex.pos (by omega) (Ex.pos (by omega) (Ex.neg hp.ne (Ex.pos (by omega) (next _ _ (.inr (.inr (.inr (.inl g3))))))))
    refine Ex.ite (fun g4=>?_) (fun g4=>?_)
    · refine Ex.bind (aci o (by omega)) (fun a ha=>Ex.bind (XI hp.ne o.length o a (by omega) (by omega) (by omega)) (fun b _=>?_))
      exact Ex.pos (by omega) (next _ _ (.inr (.inr (.inr (.inr g4)))))
    · have hr : row.length = max o.length 1:=hr.resolve_right (by rintro (g | g | g | g) <;> contradiction)
      refine Ex.bind (XI hp.ne o.length o row (by omega) (by omega) (by omega)) (fun b _=>?_)
      refine Ex.ite (fun g=>?_) (fun g=>Ex.pos (by omega) (next _ _ (.inl (by omega))))
      exact Ex.bind (VS hp.ne row (by omega) (by omega)) (fun a ha=>Ex.pos (by omega) (next _ _ (.inl (by omega))))
theorem XL {p : Int} (hp : Pm p) (name : ByteArray) (n : Int) (hn : n ≤ 100) : Ex (fun k=>dX.f k name p n) (fun r=>r.1.length ≤ 200):=by
  unfold dX.f
  by_cases g : n ≤ 0
  · exact Ov hp name n hn 0 [] [1] (by simp) (.inl rfl) (.inl ⟨by simpa using g,rfl⟩)
  · exact Ov hp name n hn n.toNat [] [1] (by simp) (.inl rfl) (.inr (by simp;omega))
section
variable {c : List Int} {i : Int}
theorem VT (s : St c i) (h p n : Int) (hp : iw p = true) (hn : n ≤ 100) : Ex (fun k=>nz.f k c i h p n) (fun r=>St c r.2.2.1∧r.2.1.length ≤ 200):=by
  have hm:=iw.pm hp
  unfold nz.f
  refine Ex.bind (nO s h 4) (fun r hr=>?_)
  refine Ex.ite (fun _=>?_) (fun _=>?_)
  · refine Ex.bind (XH hr.1 _ _) (fun a ha=>Ex.bind (CF ha.1 _ _ _ (by have:=ha.2;omega)) (fun b hb=>Ex.bind (ams hm.ne a.1 b.1 n (by have:=hb.2;omega) (by have:=ha.2;omega) hn) (fun q hq=>Ex.now ⟨hb.1,by dsimp only;omega⟩)))
  · refine Ex.ite (fun _=>?_) (fun _=>?_)
    · refine Ex.bind (P:=fun y=>y.length = 5) (Ex.now rfl) (fun y hy=>Ex.bind (nO hr.1 _ 5) (fun a ha=>?_))
      have h2:=ha.2.2.1 (by omega)
      refine Ex.pos ha.2.1 (Ex.pos (by omega) (Ex.bind (XL hm _ n hn) (fun b hb=>?_)))
      refine Ex.ite (fun _=>Ex.now ⟨ha.1,hb⟩) (fun _=>?_)
      exact Ex.bind (CF ha.1 _ _ _ hn) (fun q hq=>Ex.now ⟨hq.1,by have:=hq.2;dsimp only;omega⟩)
    · exact Ex.bind (CF hr.1 _ _ _ hn) (fun q hq=>Ex.now ⟨hq.1,by have:=hq.2;dsimp only;omega⟩)
theorem acj (s : St c i) (h : Int) : Ex (fun k=>pG.f k c i h) (fun r=>St c r.2.2.1∧r.2.1.length ≤ 200):=by
  unfold pG.f
  refine Ex.bind (XE s h) (fun a ha=>Ex.bind (ace ha.1 _ _) (fun b hb=>Ex.bind (Dm hb _ _ (by simp)) (fun q hq=>?_)))
  refine Ex.bind (VT hq.1 _ _ _ ha.2 (by unfold mn;split <;> omega)) (fun r hr=>Ex.now ⟨hr.1,hr.2⟩)
theorem XM (c : List Int) (j h p : Int) (d : Nat) : ∀ o : List Int,o.length + d = 25 ∨ d = 0∧25 ≤ o.length → o.length ≤ 200 → Ex (fun k=>gH.l0 k c j h p o) (fun r=>r.2.2.1 = j∧r.2.1.length ≤ 201):=by
  induction d with
  | zero =>
    intro o ho hl
    refine Ex.step (fun k=>by rw [gH.l0]) ?_
    exact Ex.neg (by omega) (Ex.now ⟨rfl,by dsimp only;omega⟩)
  | succ d ih =>
    intro o ho hl
    refine Ex.step (fun k=>by rw [gH.l0]) ?_
    refine Ex.pos (by omega) (Ex.bind (P:=fun y=>y = [0]) (Ex.now rfl) (fun y hy=>?_))
    subst hy
    exact Ex.pos (by simp;omega) (ih _ (by simp;omega) (by simp;omega))
theorem ahM (s : St c i) (h p : Int) (l : List Int) (hl : l.length ≤ 200) : Ex (fun k=>gH.f k c i h p l) (fun r=>St c r.2.2.1∧r.2.1.length ≤ 201):=by
  unfold gH.f
  refine Ex.bind (nO s h 50) (fun r hr=>?_)
  refine Ex.ite (fun _=>?_) (fun _=>?_)
  · exact Ex.bind (Dm hr.1 _ _ (by decide)) (fun a ha=>Ex.now ⟨ha.1,by dsimp only;omega⟩)
  refine Ex.ite (fun _=>?_) (fun _=>?_)
  · refine Ex.bind (P:=fun y=>y = l) (Ex.eq (Il l (by unfold Sm;omega)) rfl) (fun y hy=>Ex.bind (P:=fun y=>y = [p]) (Ex.now rfl) (fun z hz=>?_))
    subst hy hz
    exact Ex.pos (by simp;omega) (Ex.now ⟨hr.1,by simp;omega⟩)
  refine Ex.ite (fun _=>Ex.now ⟨hr.1,by simp⟩) (fun _=>?_)
  refine Ex.ite (fun _=>?_) (fun _=>Ex.now ⟨hr.1,by dsimp only;omega⟩)
  have st:=hr.1
  by_cases g : l.length ≤ 25
  · exact Ex.weak (XM c _ _ p (25 - l.length) l (by omega) hl) (fun a ha=>⟨by rw [ha.1];exact st,ha.2⟩)
  · exact Ex.weak (XM c _ _ p 0 l (by omega) hl) (fun a ha=>⟨by rw [ha.1];exact st,ha.2⟩)
theorem Ow (s : St c i) (h : Int) : Ex (fun k=>lM.f k c i h) (fun r=>St c r.2.2.1∧r.2.1.length ≤ 201):=by
  unfold lM.f
  exact Ex.bind (acj s h) (fun a ha=>Ex.bind (ahM ha.1 _ _ _ ha.2) (fun b hb=>Ex.now ⟨hb.1,hb.2⟩))
end
/- Sums of polynomials modulo p; no condition. -/
open Go.RowKit Go.Proofs.YtilbjbahmilhkaaW.PrintWords Go.Proofs.YtilbjbahmilhkaaW.PrintLast Go.Proofs.YtilbjbahmilhkaaW.PrintMore
theorem XN {p k : Int} (hp : Pm p) (hk : 0 ≤ k∧k < p) (g : List Int) (hg : Nm p g) (d : Nat) : ∀ (i : Nat) (o : List Int),i + d = g.length → g.length ≤ o.length → Nm p o → Sm o.length →
    Ev (fun n=>dL.l1 n p g k o (i : Int)) (oP (wU p k g d i o)):=by
  induction d with
  | zero =>
    intro i o hi hl ho hs
    refine Ev.step (fun n=>by rw [dL.l1]) ?_
    exact Ev.neg (by omega) (Ev.bind (yn o hs) (Ev.now _))
  | succ d ih =>
    intro i o hi hl ho hs
    have h1:=ho.get (i:=i) (by omega)
    have h2:=hg.get (i:=i) (by omega)
    have h3:=Cc hp hk.1 hk.2 h2.1 h2.2
    have ht:=hp.top
    have hm:=lQ hp.pos (o.getD i 0 + k * g.getD i 0)
    have hs':=hs
    unfold Sm at hs'
    refine Ev.step (fun n=>by rw [dL.l1]) ?_
    refine Ev.pos (by omega) (Ev.pos (by omega) (Ev.pos (by omega) ?_))
    rw [mM,mM,bM (x:=k * g.getD i 0) (by omega) (by omega),bM (by omega) (by omega)]
    refine Ev.iL (Gr hp _) ?_
    rw [kz (i:=i) (n:=g.length) (by omega) (by omega),kU]
    exact ih (i + 1) _ (by omega) (by rw [List.length_set];omega) (ho.set hm.1 hm.2 i) (by rw [List.length_set];exact hs)
theorem XO {p k : Int} (f g : List Int) (n : Nat) (r : List Int) (hn : f.length ≤ n) (hs : Sm n) (e : Ev (fun m=>dL.l1 m p g k (ul f n) 0) r) (d : Nat) : ∀ i,i + d = f.length →
    Ev (fun m=>dL.l0 m p f g k (f.take i ++ List.replicate (n - i) 0) (i : Int)) r:=by
  induction d with
  | zero =>
    intro i hi
    refine Ev.step (fun m=>by rw [dL.l0]) ?_
    refine Ev.neg (by omega) ?_
    rw [show i = f.length from by omega,List.take_length]
    exact e
  | succ d ih =>
    intro i hi
    unfold Sm at hs
    have hl : (f.take i ++ List.replicate (n - i) (0 : Int)).length = n:=by rw [List.length_append,List.length_take,List.length_replicate];omega
    refine Ev.step (fun m=>by rw [dL.l0]) ?_
    refine Ev.pos (by omega) (Ev.pos (by omega) (Ev.pos (by omega) ?_))
    rw [mM,kU,kz (i:=i) (n:=n) (by omega) (by omega)]
    have e2 : (f.take i ++ List.replicate (n - i) (0 : Int)).set i (f.getD i 0) = f.take (i + 1) ++ List.replicate (n - (i + 1)) 0:=by
      rw [List.set_append_right (h:=by rw [List.length_take];omega),List.length_take,show i - min i f.length = 0 from by omega,show n - i = (n - (i + 1)) + 1 from by omega,List.replicate_succ,List.set_cons_zero,List.take_add_one,List.append_assoc,List.getElem?_eq_getElem (by omega),List.getD_eq_getElem?_getD,List.getElem?_eq_getElem (by omega)]
      rfl
    rw [e2]
    exact ih (i + 1) (by omega)
theorem QD {p k : Int} (hp : Pm p) (hk : 0 ≤ k∧k < p) (f g : List Int) (hf : Nm p f) (hg : Nm p g) (sf : Sm f.length) (sg : Sm g.length) :
    Ev (fun n=>dL.f n p f g k) (Dq p f g k):=by
  unfold dL.f
  unfold Sm at sf sg
  rw [Xo,kU]
  refine Ev.pos (by omega) (Ev.pos (by omega) ?_)
  have h1:=XN hp hk g hg g.length 0 (ul f (max f.length g.length)) (by omega) (by rw [u6 f (by omega)];omega) (hf.ul hp.pos _) (by rw [u6 f (by omega)];unfold Sm;omega)
  have h2:=XO f g (max f.length g.length) _ (by omega) (by unfold Sm;omega) h1 f.length 0 (by omega)
  rw [List.take_zero,List.nil_append,Nat.sub_zero] at h2
  exact h2
/- Products of polynomials modulo p; no condition. -/
/-! ### products -/
def pW (p c : Int) (g : List Int) (i : Nat) : Nat → Nat → List Int → List Int
  | 0,_,o=>o
  | d + 1,j,o=>pW p c g i d (j + 1) (o.set (i + j) ((o.getD (i + j) 0 + c * g.getD j 0) % p))
theorem tT (p c : Int) (g : List Int) (i d : Nat) : ∀ j o,(pW p c g i d j o).length = o.length:=by
  induction d with
  | zero=>intro j o;rfl
  | succ d ih=>intro j o;rw [pW,ih,List.length_set]
theorem Dx {p : Int} (hp : 0 < p) (c : Int) (g : List Int) (i d : Nat) : ∀ j o,Nm p o → Nm p (pW p c g i d j o):=by
  induction d with
  | zero=>intro j o h;exact h
  | succ d ih=>intro j o h;exact ih _ _ (h.set (lQ hp _).1 (lQ hp _).2 _)
def tL (p : Int) (f g : List Int) : Nat → Nat → List Int → List Int
  | 0,_,o=>o
  | d + 1,i,o=>tL p f g d (i + 1) (pW p (f.getD i 0) g i g.length 0 o)
theorem QE (p : Int) (f g : List Int) (d : Nat) : ∀ i o,(tL p f g d i o).length = o.length:=by
  induction d with
  | zero=>intro i o;rfl
  | succ d ih=>intro i o;rw [tL,ih,tT]
theorem VU {p : Int} (hp : 0 < p) (f g : List Int) (d : Nat) : ∀ i o,Nm p o → Nm p (tL p f g d i o):=by
  induction d with
  | zero=>intro i o h;exact h
  | succ d ih=>intro i o h;exact ih _ _ (Dx hp _ _ _ _ _ _ h)
/-- f times g. -/
def mg (p : Int) (f g : List Int) : List Int:=if f.length = 0 ∨ g.length = 0 then [] else oP (tL p f g f.length 0 (List.replicate (f.length + g.length - 1) 0))
theorem uu (p : Int) (f g : List Int) : (mg p f g).length ≤ f.length + g.length - 1:=by
  unfold mg
  split
  · simp
  · have:=Ir (tL p f g f.length 0 (List.replicate (f.length + g.length - 1) 0))
    rw [QE,List.length_replicate] at this
    exact this
theorem xk {p : Int} (hp : 0 < p) (f g : List Int) : Nm p (mg p f g):=by
  unfold mg
  split
  · exact Nm.nil p
  · exact (VU hp _ _ _ _ _ (Nm.zeros hp _)).oP
theorem XP {p : Int} (hp : Pm p) (f g : List Int) (hg : Nm p g) (c : Int) (hc : 0 ≤ c∧c < p) (i : Nat) (r : List Int) (d : Nat) : ∀ (j : Nat) (o : List Int),j + d = g.length → i + g.length ≤ o.length → Nm p o → Sm o.length →
    Ev (fun n=>aV.l0 n p g (pW p c g i d j o) f (f.length : Int) (wrap64 ((i : Int) + 1))) r →
    Ev (fun n=>aV.l1 n p g o (i : Int) c f (f.length : Int) (i : Int) g (g.length : Int) (j : Int)) r:=by
  induction d with
  | zero =>
    intro j o hj hl ho hs e
    refine Ev.step (fun n=>by rw [aV.l1]) ?_
    exact Ev.neg (by omega) e
  | succ d ih =>
    intro j o hj hl ho hs e
    have h1:=ho.get (i:=i + j) (by omega)
    have h2:=hg.get (i:=j) (by omega)
    have h3:=Cc hp hc.1 hc.2 h2.1 h2.2
    have ht:=hp.top
    have hm:=lQ hp.pos (o.getD (i + j) 0 + c * g.getD j 0)
    have hs':=hs
    unfold Sm at hs'
    have hw : wrap64 ((i : Int) + (j : Int)) = ((i + j : Nat) : Int):=Xk (n:=o.length) (by omega) (by omega)
    refine Ev.step (fun n=>by rw [aV.l1]) ?_
    rw [hw]
    have c1 : (j : Int) < (g.length : Int):=by clear h1 h2 h3 hm hw e;omega
    have c2 : (0 : Int) ≤ (j : Int):=by clear h1 h2 h3 hm hw e;omega
    have c3 : (0 : Int) ≤ ((i + j : Nat) : Int):=by clear h1 h2 h3 hm hw e;omega
    have c4 : ((i + j : Nat) : Int) < (o.length : Int):=by clear h1 h2 h3 hm hw e;omega
    refine Ev.pos c1 (Ev.pos c2 (Ev.pos c1 (Ev.pos c3 (Ev.pos c4 ?_))))
    rw [mM,mM,bM (x:=c * g.getD j 0) (by omega) (by omega),bM (by omega) (by omega)]
    refine Ev.iL (AO hp _) ?_
    rw [kz (i:=j) (n:=g.length) (by clear h1 h2 h3 hm hw e;omega) (by clear h1 h2 h3 hm hw e;omega),kU]
    exact ih (j + 1) _ (by clear h1 h2 h3 hm hw e;omega) (by rw [List.length_set];clear h1 h2 h3 hm hw e;omega) (ho.set hm.1 hm.2 _) (by rw [List.length_set];exact hs) e
theorem XQ {p : Int} (hp : Pm p) (f g : List Int) (hf : Nm p f) (hg : Nm p g) (d : Nat) : ∀ (i : Nat) (o : List Int),i + d = f.length → f.length + g.length ≤ o.length + 1 → Nm p o → Sm o.length →
    Ev (fun n=>aV.l0 n p g o f (f.length : Int) (i : Int)) (oP (tL p f g d i o)):=by
  induction d with
  | zero =>
    intro i o hi hl ho hs
    refine Ev.step (fun n=>by rw [aV.l0]) ?_
    exact Ev.neg (by omega) (Ev.bind (FI o hs) (Ev.now _))
  | succ d ih =>
    intro i o hi hl ho hs
    have hs':=hs
    unfold Sm at hs'
    refine Ev.step (fun n=>by rw [aV.l0]) ?_
    refine Ev.pos (by omega) (Ev.pos (by omega) (Ev.pos (by omega) ?_))
    rw [mM]
    refine XP hp f g hg _ (hf.get (i:=i) (by omega)) i _ g.length 0 o (by omega) (by omega) ho hs ?_
    by_cases hg0 : f.length ≤ 4611686018427387903
    · rw [kz (i:=i) (n:=f.length) (by omega) (by omega)]
      exact ih (i + 1) _ (by omega) (by rw [tT];exact hl) (Dx hp.pos _ _ _ _ _ _ ho) (by rw [tT];exact hs)
    · omega
theorem xK {p : Int} (hp : Pm p) (f g : List Int) (hf : Nm p f) (hg : Nm p g) (sf : Sm f.length) (sg : Sm g.length) (sfg : Sm (f.length + g.length)) :
    Ev (fun n=>aV.f n p f g) (mg p f g):=by
  unfold aV.f mg
  unfold Sm at sf sg sfg
  by_cases h1 : f.length = 0
  · rw [if_pos (Or.inl h1)]
    refine Ev.pos (by omega) ?_
    refine Ev.step (fun n=>by rw [aV.j0]) ?_
    exact Ev.pos rfl (Ev.now _)
  · refine Ev.neg (by omega) ?_
    by_cases h2 : g.length = 0
    · rw [if_pos (Or.inr h2),show ((g.length : Int) == 0) = true from by simp [h2]]
      refine Ev.step (fun n=>by rw [aV.j0]) ?_
      exact Ev.pos rfl (Ev.now _)
    · rw [if_neg (by omega),show ((g.length : Int) == 0) = false from by simp;exact fun h=>h2 (by simp [h])]
      refine Ev.step (fun n=>by rw [aV.j0]) ?_
      have e : wrap64 (wrap64 ((f.length : Int) + (g.length : Int)) - 1) = ((f.length + g.length - 1 : Nat) : Int):=by
        rw [bM (x:=(f.length : Int) + (g.length : Int)) (by omega) (by omega),bM (by omega) (by omega)];omega
      rw [e,kU]
      refine Ev.neg (by decide) (Ev.pos (by omega) (Ev.pos (by omega) ?_))
      exact XQ hp f g hf hg f.length 0 _ (by omega) (by rw [List.length_replicate];omega) (Nm.zeros hp.pos _) (by rw [List.length_replicate];unfold Sm;omega)
theorem XR {p : Int} (hp : Pm p) (f g : List Int) (hf : Nm p f) (hg : Nm p g) (i : Nat) (hi : i < f.length) (r : List Int) (d : Nat) : ∀ (j : Nat) (o : List Int),j + d = g.length → i + g.length ≤ o.length → Nm p o → Sm o.length →
    Ev (fun n=>bC.l0 n p f g (pW p (f.getD i 0) g i d j o) (wrap64 ((i : Int) + 1))) r →
    Ev (fun n=>bC.l1 n p f g o (i : Int) (j : Int)) r:=by
  induction d with
  | zero =>
    intro j o hj hl ho hs e
    refine Ev.step (fun n=>by rw [bC.l1]) ?_
    exact Ev.neg (by omega) e
  | succ d ih =>
    intro j o hj hl ho hs e
    have hc:=hf.get (i:=i) hi
    have h1:=ho.get (i:=i + j) (by omega)
    have h2:=hg.get (i:=j) (by omega)
    have h3:=Cc hp hc.1 hc.2 h2.1 h2.2
    have ht:=hp.top
    have hm:=lQ hp.pos (o.getD (i + j) 0 + f.getD i 0 * g.getD j 0)
    have hs':=hs
    unfold Sm at hs'
    have hw : wrap64 ((i : Int) + (j : Int)) = ((i + j : Nat) : Int):=Xk (n:=o.length) (by omega) (by omega)
    refine Ev.step (fun n=>by rw [bC.l1]) ?_
    rw [hw]
    have c1 : (j : Int) < (g.length : Int):=by clear h1 h2 h3 hm hw e;omega
    have c2 : (0 : Int) ≤ (j : Int):=by clear h1 h2 h3 hm hw e;omega
    have c3 : (0 : Int) ≤ ((i + j : Nat) : Int):=by clear h1 h2 h3 hm hw e;omega
    have c4 : ((i + j : Nat) : Int) < (o.length : Int):=by clear h1 h2 h3 hm hw e;omega
    have c5 : (0 : Int) ≤ (i : Int):=by clear h1 h2 h3 hm hw e;omega
    have c6 : (i : Int) < (f.length : Int):=by clear h1 h2 h3 hm hw e;omega
    refine Ev.pos c1 (Ev.pos c3 (Ev.pos c4 (Ev.pos c5 (Ev.pos c6 (Ev.pos c2 (Ev.neg hp.ne ?_))))))
    rw [mM,mM,mM,bM (x:=f.getD i 0 * g.getD j 0) (by omega) (by omega),bM (by omega) (by omega),lC (by omega),kz (i:=j) (n:=g.length) (by clear h1 h2 h3 hm hw e;omega) (by clear h1 h2 h3 hm hw e;omega),kU]
    exact ih (j + 1) _ (by clear h1 h2 h3 hm hw e;omega) (by rw [List.length_set];clear h1 h2 h3 hm hw e;omega) (ho.set hm.1 hm.2 _) (by rw [List.length_set];exact hs) e
theorem XT {p : Int} (hp : Pm p) (f g : List Int) (hf : Nm p f) (hg : Nm p g) (d : Nat) : ∀ (i : Nat) (o : List Int),i + d = f.length → f.length + g.length ≤ o.length + 1 → Nm p o → Sm o.length →
    Ev (fun n=>bC.l0 n p f g o (i : Int)) (oP (tL p f g d i o)):=by
  induction d with
  | zero =>
    intro i o hi hl ho hs
    refine Ev.step (fun n=>by rw [bC.l0]) ?_
    exact Ev.neg (by omega) (Ev.bind (yn o hs) (Ev.now _))
  | succ d ih =>
    intro i o hi hl ho hs
    have hs':=hs
    unfold Sm at hs'
    refine Ev.step (fun n=>by rw [bC.l0]) ?_
    refine Ev.pos (by omega) ?_
    refine XR hp f g hf hg i (by omega) _ g.length 0 o (by omega) (by omega) ho hs ?_
    by_cases hg0 : f.length ≤ 4611686018427387903
    · rw [kz (i:=i) (n:=f.length) (by omega) (by omega)]
      exact ih (i + 1) _ (by omega) (by rw [tT];exact hl) (Dx hp.pos _ _ _ _ _ _ ho) (by rw [tT];exact hs)
    · omega
theorem IB {p : Int} (hp : Pm p) (f g : List Int) (hf : Nm p f) (hg : Nm p g) (sf : Sm f.length) (sg : Sm g.length) (sfg : Sm (f.length + g.length)) :
    Ev (fun n=>bC.f n p f g) (mg p f g):=by
  unfold bC.f mg
  unfold Sm at sf sg sfg
  by_cases h1 : f.length = 0
  · rw [if_pos (Or.inl h1)]
    refine Ev.pos (by omega) ?_
    refine Ev.step (fun n=>by rw [bC.j0]) ?_
    exact Ev.pos rfl (Ev.now _)
  · refine Ev.neg (by omega) ?_
    by_cases h2 : g.length = 0
    · rw [if_pos (Or.inr h2),show ((g.length : Int) == 0) = true from by simp [h2]]
      refine Ev.step (fun n=>by rw [bC.j0]) ?_
      exact Ev.pos rfl (Ev.now _)
    · rw [if_neg (by omega),show ((g.length : Int) == 0) = false from by simp;exact fun h=>h2 (by simp [h])]
      refine Ev.step (fun n=>by rw [bC.j0]) ?_
      have e : wrap64 (wrap64 ((f.length : Int) + (g.length : Int)) - 1) = ((f.length + g.length - 1 : Nat) : Int):=by
        rw [bM (x:=(f.length : Int) + (g.length : Int)) (by omega) (by omega),bM (by omega) (by omega)];omega
      rw [e,kU]
      refine Ev.neg (by decide) (Ev.pos (by omega) (Ev.pos (by omega) ?_))
      exact XT hp f g hf hg f.length 0 _ (by omega) (by rw [List.length_replicate];omega) (Nm.zeros hp.pos _) (by rw [List.length_replicate];unfold Sm;omega)
/- One step of a recurrence: (x - a) f - b g, and the program's function for it; no condition. -/
/-- (x - a) f - b g. -/
def y8 (p a b : Int) (f g : List Int) : List Int:=Dq p (mg p [(-a) % p,1] f) g ((-b) % p)
theorem XU {p : Int} (hp : Pm p) (a b : Int) (f g : List Int) : Nm p (y8 p a b f g):=abX hp.pos (xk hp.pos _ _) _
theorem VV (p a b : Int) (f g : List Int) : (y8 p a b f g).length ≤ max (f.length + 1) g.length:=by
  have h1:=Xn p (mg p [(-a) % p,1] f) g ((-b) % p)
  have h2:=uu p [(-a) % p,1] f
  simp only [List.length_cons,List.length_nil] at h2
  unfold y8
  omega
theorem XV {p : Int} (hp : Pm p) (a : Int) : Nm p [(-a) % p,1]:=by
  have:=hp.two
  exact Nm.cons (lQ hp.pos _).1 (lQ hp.pos _).2 (Nm.cons (by omega) (by omega) (Nm.nil p))
theorem Ox {p a : Int} (hp : Pm p) (h : 0 ≤ a∧a < p) : wrap64 (-a) = -a:=by
  have:=hp.top
  exact bM (by omega) (by omega)
theorem Oy {p a b : Int} (hp : Pm p) (ha : 0 ≤ a∧a < p) (hb : 0 ≤ b∧b < p) (f g : List Int) (hf : Nm p f) (hg : Nm p g) (sf : f.length ≤ 1000) (sg : g.length ≤ 1000) :
    Ev (fun n=>mh.f n p a b f g) (y8 p a b f g):=by
  unfold mh.f
  have h2:=uu p [(-a) % p,1] f
  simp only [List.length_cons,List.length_nil] at h2
  rw [Ox hp ha,Ox hp hb]
  refine Ev.iL (AO hp _) (Ev.bind (xK hp _ f (XV hp a) hf (by simp [Sm]) (by unfold Sm;omega) (by simp only [List.length_cons,List.length_nil];unfold Sm;omega)) (Ev.iL (AO hp _) (Ev.bind ?_ (Ev.now _))))
  exact Qm hp (lQ hp.pos _) _ g (xk hp.pos _ _) hg (by unfold Sm;omega) (by unfold Sm;omega)
theorem ahN {p : Int} (hp : Pm p) : Nm p [1]:=by
  have:=hp.two
  exact Nm.cons (by omega) (by omega) (Nm.nil p)
/- Lists that begin a recurrence's step: monic stays monic; no condition. -/
theorem getD_set_ne {l : List Int} {i j : Nat} {x : Int} (h : i ≠ j) : (l.set i x).getD j 0 = l.getD j 0:=by
  rw [List.getD_eq_getElem?_getD,List.getElem?_set_ne h,List.getD_eq_getElem?_getD]
theorem Oz {l : List Int} {i : Nat} {x : Int} (h : i < l.length) : (l.set i x).getD i 0 = x:=by
  rw [List.getD_eq_getElem?_getD,List.getElem?_set_self h];rfl
theorem QF (p c : Int) (g : List Int) (i d : Nat) : ∀ (j : Nat) (o : List Int),i + j + d < o.length →
    (pW p c g i (d + 1) j o).getD (i + j + d) 0 = (o.getD (i + j + d) 0 + c * g.getD (j + d) 0) % p:=by
  induction d with
  | zero =>
    intro j o h
    rw [pW,pW,Nat.add_zero,Nat.add_zero,Oz (by omega)]
  | succ d ih =>
    intro j o h
    have:=ih (j + 1) (o.set (i + j) ((o.getD (i + j) 0 + c * g.getD j 0) % p)) (by rw [List.length_set];omega)
    rw [pW,show i + j + (d + 1) = i + (j + 1) + d from by omega,this,getD_set_ne (by omega),show j + 1 + d = j + (d + 1) from by omega]
theorem VW (p c : Int) (g : List Int) (i d : Nat) : ∀ (j t : Nat) (o : List Int),i + j + d ≤ t → (pW p c g i d j o).getD t 0 = o.getD t 0:=by
  induction d with
  | zero=>intro j t o h;rfl
  | succ d ih=>intro j t o h;rw [pW,ih (j + 1) t _ (by omega),getD_set_ne (by omega)]
theorem VX (p k : Int) (g : List Int) (d : Nat) : ∀ (i t : Nat) (o : List Int),i + d ≤ t → (wU p k g d i o).getD t 0 = o.getD t 0:=by
  induction d with
  | zero=>intro i t o h;rfl
  | succ d ih=>intro i t o h;rw [wU,ih (i + 1) t _ (by omega),getD_set_ne (by omega)]
theorem Tq {l : List Int} {n : Nat} (hl : l.length = n + 1) (h : l.getD n 0 ≠ 0) : oP l = l:=by
  have hne : l ≠ []:=by intro e;rw [e] at hl;simp at hl
  have e:=List.dropLast_concat_getLast hne
  have hlast : l.getLast hne = l.getD n 0:=by
    rw [List.getLast_eq_getElem,List.getD_eq_getElem?_getD,List.getElem?_eq_getElem (by omega)]
    simp [hl]
  rw [← e,xx _ (by rw [hlast];exact h)]
/-- Monic of degree k. -/
def Mon (f : List Int) (k : Nat) : Prop:=f.length = k + 1∧f.getD k 0 = 1
theorem VY {p : Int} (hp : Pm p) (a b : Int) (f g : List Int) (k : Nat) (hf : Mon f k) (hg : g.length ≤ k + 1) : Mon (y8 p a b f g) (k + 1):=by
  have h2:=hp.two
  have e1 : (1 : Int) % p = 1:=Int.emod_eq_of_lt (by omega) (by omega)
  have hz : (List.replicate (2 + (k + 1) - 1) (0 : Int)).length = k + 2:=by rw [List.length_replicate];omega
  have ho : (pW p ((-a) % p) f 0 (k + 1) 0 (List.replicate (2 + (k + 1) - 1) 0)).length = k + 2:=by rw [tT];exact hz
  have hz0 : (List.replicate (2 + (k + 1) - 1) (0 : Int)).getD (k + 1) 0 = 0:=by
    rw [List.getD_eq_getElem?_getD,List.getElem?_replicate];split <;> rfl
  have hm : mg p [(-a) % p,1] f = pW p 1 f 1 (k + 1) 0 (pW p ((-a) % p) f 0 (k + 1) 0 (List.replicate (2 + (k + 1) - 1) 0)) ∧
      (mg p [(-a) % p,1] f).length = k + 2∧(mg p [(-a) % p,1] f).getD (k + 1) 0 = 1:=by
    have hl : (pW p 1 f 1 (k + 1) 0 (pW p ((-a) % p) f 0 (k + 1) 0 (List.replicate (2 + (k + 1) - 1) 0))).length = k + 2:=by rw [tT];exact ho
    have ht : (pW p 1 f 1 (k + 1) 0 (pW p ((-a) % p) f 0 (k + 1) 0 (List.replicate (2 + (k + 1) - 1) 0))).getD (k + 1) 0 = 1:=by
      have:=QF p 1 f 1 k 0 (pW p ((-a) % p) f 0 (k + 1) 0 (List.replicate (2 + (k + 1) - 1) 0)) (by rw [ho];omega)
      rw [show 1 + 0 + k = k + 1 from by omega,VW p _ f 0 (k + 1) 0 (k + 1) _ (by omega),hz0,Nat.zero_add,hf.2,Int.one_mul,Int.zero_add,e1] at this
      exact this
    have he : mg p [(-a) % p,1] f = pW p 1 f 1 (k + 1) 0 (pW p ((-a) % p) f 0 (k + 1) 0 (List.replicate (2 + (k + 1) - 1) 0)):=by
      unfold mg
      rw [if_neg (by rw [hf.1];simp),hf.1]
      show oP (tL p [(-a) % p,1] f 2 0 (List.replicate (2 + (k + 1) - 1) 0)) = _
      rw [tL,tL,tL,hf.1]
      have hq:=Tq hl (by rw [ht];decide)
      exact hq
    rw [he]
    exact ⟨rfl,hl,ht⟩
  have hmx : max (mg p [(-a) % p,1] f).length g.length = k + 2:=by rw [hm.2.1];omega
  have hl2 : (wU p ((-b) % p) g g.length 0 (ul (mg p [(-a) % p,1] f) (k + 2))).length = k + 2:=by rw [J2,u6 _ (by rw [hm.2.1];omega)]
  have ht2 : (wU p ((-b) % p) g g.length 0 (ul (mg p [(-a) % p,1] f) (k + 2))).getD (k + 1) 0 = 1:=by
    rw [VX _ _ _ _ _ _ _ (by omega),ul,hm.2.1,Nat.sub_self,List.replicate_zero,List.append_nil,hm.2.2]
  unfold y8 Dq
  rw [hmx,Tq hl2 (by rw [ht2];decide)]
  exact ⟨hl2,ht2⟩
/- Coefficients: a product's are the convolution's rests, trimmed lists of the same coefficients are the same, products commute; no condition. -/
theorem AU (l : List Int) (k : Nat) : (oP l).getD k 0 = l.getD k 0:=by
  obtain ⟨n,h⟩:=Ik l
  have e : l.getD k 0 = (oP l ++ List.replicate n 0).getD k 0:=congrArg (fun x=>x.getD k 0) h
  rw [e]
  simp only [List.getD_eq_getElem?_getD]
  by_cases hk : k < (oP l).length
  · rw [List.getElem?_append_left hk]
  · rw [List.getElem?_append_right (by omega),List.getElem?_eq_none (by omega)]
    by_cases h2 : k - (oP l).length < n
    · rw [List.getElem?_replicate,if_pos h2];rfl
    · rw [List.getElem?_replicate,if_neg h2]
theorem J7 (n : Nat) : ∀ l : List Int,l.length = n → 0 < (oP l).length → (oP l).getD ((oP l).length - 1) 0 ≠ 0:=by
  induction n with
  | zero =>
    intro l hl h
    rw [List.length_eq_zero_iff.1 hl,Ij] at h
    exact absurd h (by simp)
  | succ n ih =>
    intro l hl
    have hne : l ≠ []:=fun e=>by rw [e] at hl;simp at hl
    have hd:=List.dropLast_concat_getLast hne
    have hln : l.dropLast.length = n:=by rw [List.length_dropLast];omega
    generalize l.dropLast = a at hd hln
    generalize l.getLast hne = x at hd
    subst hd
    by_cases hx : x = 0
    · subst hx
      rw [uk]
      exact ih a hln
    · rw [xx a hx]
      intro _
      simp [hx]
theorem OA {l m : List Int} (h : ∀ k,l.getD k 0 = m.getD k 0) : oP l = oP m:=by
  have hg : ∀ k,(oP l).getD k 0 = (oP m).getD k 0:=fun k=>by rw [AU,AU,h k]
  have zero : ∀ (a : List Int) (k : Nat),a.length ≤ k → a.getD k 0 = 0:=fun a k hk=>by rw [List.getD_eq_getElem?_getD,List.getElem?_eq_none hk];rfl
  have hlen : (oP l).length = (oP m).length:=by
    rcases Nat.lt_trichotomy (oP l).length (oP m).length with g | g | g
    · have h1:=J7 _ m rfl (by omega)
      rw [← hg,zero _ _ (by omega)] at h1
      exact absurd rfl h1
    · exact g
    · have h1:=J7 _ l rfl (by omega)
      rw [hg,zero _ _ (by omega)] at h1
      exact absurd rfl h1
  apply List.ext_getElem hlen
  intro i h1 h2
  have h3:=hg i
  rw [List.getD_eq_getElem?_getD,List.getD_eq_getElem?_getD,List.getElem?_eq_getElem h1,List.getElem?_eq_getElem h2] at h3
  exact h3
/-- The number k of x^i g. -/
def sh (g : List Int) (i k : Nat) : Int:=if i ≤ k then g.getD (k - i) 0 else 0
theorem AV (a : List Int) {k : Nat} (hk : a.length ≤ k) : a.getD k 0 = 0:=by rw [List.getD_eq_getElem?_getD,List.getElem?_eq_none hk];rfl
theorem Tt (o : List Int) (n k : Nat) (x : Int) (hn : n < o.length) : (o.set n x).getD k 0 = if k = n then x else o.getD k 0:=by
  simp only [List.getD_eq_getElem?_getD]
  by_cases h : k = n
  · subst h;rw [List.getElem?_set_self hn,if_pos rfl];rfl
  · rw [List.getElem?_set_ne (Ne.symm h),if_neg h]
theorem VZ (p c : Int) (g : List Int) (i d : Nat) : ∀ (j : Nat) (o : List Int),j + d = g.length → i + g.length ≤ o.length → ∀ k,(pW p c g i d j o).getD k 0 = if i + j ≤ k∧k < i + g.length then (o.getD k 0 + c * g.getD (k - i) 0) % p else o.getD k 0:=by
  induction d with
  | zero =>
    intro j o hj ho k
    rw [pW,if_neg (by omega)]
  | succ d ih =>
    intro j o hj ho k
    rw [pW,ih (j + 1) _ (by omega) (by rw [List.length_set];exact ho) k,Tt _ _ _ _ (by omega)]
    by_cases h1 : k = i + j
    · rw [if_neg (by omega),if_pos h1,if_pos (by omega),h1,show i + j - i = j from by omega]
    · rw [if_neg h1]
      by_cases h2 : i + (j + 1) ≤ k∧k < i + g.length
      · rw [if_pos h2,if_pos (by omega)]
      · rw [if_neg h2,if_neg (by omega)]
theorem XW {p : Int} (hp : 0 < p) (c : Int) (g : List Int) (i : Nat) (o : List Int) (ho : i + g.length ≤ o.length) (hn : Nm p o) (k : Nat) : (pW p c g i g.length 0 o).getD k 0 = (o.getD k 0 + c * sh g i k) % p:=by
  rw [VZ p c g i g.length 0 o (by omega) ho k,sh]
  have hb:=hn.Cx hp k
  by_cases h : i ≤ k
  · rw [if_pos h]
    by_cases h2 : k < i + g.length
    · rw [if_pos (by omega)]
    · rw [if_neg (by omega),AV g (k:=k - i) (by omega),Int.mul_zero,Int.add_zero,Int.emod_eq_of_lt hb.1 hb.2]
  · rw [if_neg (by omega),if_neg h,Int.mul_zero,Int.add_zero,Int.emod_eq_of_lt hb.1 hb.2]
theorem Lg (a b p : Int) : (a % p + b) % p = (a + b) % p:=by rw [Int.add_emod,Int.emod_emod,← Int.add_emod]
theorem V3 {g : Nat → Int} {n : Nat} (h : ∀ i,i < n → g i = 0) : sumTo g n = 0:=by
  induction n with
  | zero=>rfl
  | succ n ih=>rw [sumTo,ih (fun i hi=>h i (by omega)),h n (by omega),Int.add_zero]
theorem AX (h : Nat → Int) (n : Nat) : sumTo h (n + 1) = h 0 + sumTo (fun t=>h (t + 1)) n:=by
  induction n with
  | zero=>simp [sumTo]
  | succ n ih =>
    rw [sumTo,ih,sumTo,Int.add_assoc]
theorem QG {p : Int} (hp : 0 < p) (f g : List Int) (d : Nat) : ∀ (i : Nat) (o : List Int),i + d = f.length → f.length + g.length ≤ o.length + 1 → Nm p o → ∀ k,(tL p f g d i o).getD k 0 = (o.getD k 0 + sumTo (fun t=>f.getD (i + t) 0 * sh g (i + t) k) d) % p:=by
  induction d with
  | zero =>
    intro i o hi ho hn k
    have hb:=hn.Cx hp k
    rw [tL,sumTo,Int.add_zero,Int.emod_eq_of_lt hb.1 hb.2]
  | succ d ih =>
    intro i o hi ho hn k
    rw [tL,ih (i + 1) _ (by omega) (by rw [tT];exact ho) (Dx hp _ _ _ _ _ _ hn) k,XW hp _ _ _ _ (by omega) hn,Lg,AX,Int.add_assoc]
    simp only [Nat.add_zero,Nat.add_assoc,Nat.add_comm 1]
theorem ahO {g : List Int} {i k : Nat} (h : i + g.length ≤ k) : sh g i k = 0:=by
  rw [sh,if_pos (by omega),AV g (by omega)]
/-- A product's numbers. -/
theorem Dy {p : Int} (hp : 0 < p) (f g : List Int) (k : Nat) : (mg p f g).getD k 0 = sumTo (fun t=>f.getD t 0 * sh g t k) f.length % p:=by
  unfold mg
  split
  · rename_i h
    have hz : ∀ t,t < f.length → f.getD t 0 * sh g t k = 0:=fun t ht=>by
      rcases h with h | h
      · omega
      · have : sh g t k = 0:=by
          unfold sh
          split
          · exact AV g (by omega)
          · rfl
        rw [this,Int.mul_zero]
    rw [V3 hz];simp
  · rename_i h
    rw [AU,QG hp f g f.length 0 _ (by omega) (by rw [List.length_replicate];omega) (Nm.zeros hp _) k]
    have hz : (List.replicate (f.length + g.length - 1) (0 : Int)).getD k 0 = 0:=by
      rw [List.getD_eq_getElem?_getD,List.getElem?_replicate]
      split <;> rfl
    rw [hz,Int.zero_add]
    simp only [Nat.zero_add]
theorem zw {h : Nat → Int} {n : Nat} (hz : ∀ t,n ≤ t → h t = 0) (d : Nat) : sumTo h (n + d) = sumTo h n:=by
  induction d with
  | zero=>rfl
  | succ d ih=>rw [← Nat.add_assoc,sumTo,ih,hz _ (by omega),Int.add_zero]
theorem sumTo_congr {g h : Nat → Int} (n : Nat) (e : ∀ t,t < n → g t = h t) : sumTo g n = sumTo h n:=by
  induction n with
  | zero=>rfl
  | succ n ih=>rw [sumTo,sumTo,ih (fun t ht=>e t (by omega)),e n (by omega)]
theorem QH (n : Nat) : ∀ h : Nat → Int,sumTo h (n + 1) = sumTo (fun t=>h (n - t)) (n + 1):=by
  induction n with
  | zero=>intro h;simp [sumTo]
  | succ n ih =>
    intro h
    rw [AX h,ih (fun t=>h (t + 1))]
    have e : sumTo (fun t=>h (n + 1 - t)) (n + 1) = sumTo (fun t=>h (n - t + 1)) (n + 1):=sumTo_congr _ (fun t ht=>by rw [show n + 1 - t = n - t + 1 from by omega])
    have e2 : sumTo (fun t=>h (n + 1 - t)) (n + 1 + 1) = sumTo (fun t=>h (n + 1 - t)) (n + 1) + h (n + 1 - (n + 1)):=rfl
    rw [e2,e,Nat.sub_self,Int.add_comm]
/-- The convolution. -/
theorem Tu (f g : List Int) (k : Nat) : sumTo (fun t=>f.getD t 0 * sh g t k) f.length = sumTo (fun t=>f.getD t 0 * g.getD (k - t) 0) (k + 1):=by
  have h1 : ∀ t,f.length ≤ t → f.getD t 0 * sh g t k = 0:=fun t ht=>by rw [AV f ht,Int.zero_mul]
  have h2 : ∀ t,k + 1 ≤ t → f.getD t 0 * sh g t k = 0:=fun t ht=>by rw [sh,if_neg (by omega),Int.mul_zero]
  have h3 : sumTo (fun t=>f.getD t 0 * sh g t k) f.length = sumTo (fun t=>f.getD t 0 * sh g t k) (k + 1):=by
    rw [← zw h1 (k + 1),← zw h2 f.length,Nat.add_comm]
  rw [h3]
  exact sumTo_congr _ (fun t ht=>by rw [sh,if_pos (by omega)])
theorem ES (p : Int) (f g : List Int) : oP (mg p f g) = mg p f g:=by
  have tt : ∀ l : List Int,oP (oP l) = oP l:=fun l=>OA (fun k=>AU l k)
  unfold mg
  split
  · exact Ij
  · exact tt _
theorem J8 {p : Int} (hp : 0 < p) (f g : List Int) : mg p f g = mg p g f:=by
  rw [← ES p f g,← ES p g f]
  refine OA fun k=>?_
  rw [Dy hp,Dy hp,Tu,Tu,QH]
  congr 1
  refine sumTo_congr _ fun t ht=>?_
  rw [show k - (k - t) = t from by omega,Int.mul_comm]
/- Coefficients of a sum of polynomials. -/
theorem V4 (p c : Int) (g : List Int) (d : Nat) : ∀ (i : Nat) (o : List Int),i + d ≤ o.length → ∀ j,(wU p c g d i o).getD j 0 = if i ≤ j∧j < i + d then (o.getD j 0 + c * g.getD j 0) % p else o.getD j 0:=by
  induction d with
  | zero =>
    intro i o h j
    rw [wU,if_neg (by omega)]
  | succ d ih =>
    intro i o h j
    rw [wU,ih (i + 1) _ (by rw [List.length_set];omega) j,Tt _ _ _ _ (by omega)]
    by_cases h1 : j = i
    · subst h1
      rw [if_neg (by omega),if_pos rfl,if_pos (by omega)]
    · rw [if_neg h1]
      by_cases h2 : i + 1 ≤ j∧j < i + 1 + d
      · rw [if_pos h2,if_pos (by omega)]
      · rw [if_neg h2,if_neg (by omega)]
theorem V5 (f : List Int) (n j : Nat) : (ul f n).getD j 0 = f.getD j 0:=by
  unfold ul
  simp only [List.getD_eq_getElem?_getD]
  by_cases h : j < f.length
  · rw [List.getElem?_append_left h]
  · rw [List.getElem?_append_right (by omega),List.getElem?_replicate,List.getElem?_eq_none (l:=f) (by omega)]
    split <;> rfl
theorem OB {f : List Int} {j : Nat} (h : f.length ≤ j) : f.getD j 0 = 0:=by rw [List.getD_eq_getElem?_getD,List.getElem?_eq_none h];rfl
theorem XX {p : Int} (hp : 0 < p) {f : List Int} (g : List Int) (k : Int) (hf : Nm p f) (j : Nat) : (Dq p f g k).getD j 0 = (f.getD j 0 + k * g.getD j 0) % p:=by
  unfold Dq
  rw [AU,V4 p k g g.length 0 _ (by rw [u6 f (by omega)];omega),V5]
  by_cases h : j < g.length
  · rw [if_pos ⟨Nat.zero_le _,by omega⟩]
  · rw [if_neg (by omega),OB (f:=g) (by omega),Int.mul_zero,Int.add_zero]
    have:=hf.Cx hp j
    exact (Int.emod_eq_of_lt this.1 this.2).symm
/- Powers modulo p: what the program and the reference compute; no condition. -/
theorem Dz {p : Int} (hp : Pm p) {x y : Int} (hx : 0 ≤ x∧x < p) (hy : 0 ≤ y∧y < p) : je.f p x y = some (x * y % p):=by
  unfold je.f
  have h:=Cc hp hx.1 hx.2 hy.1 hy.2
  rw [bM (by omega) (by omega),AO hp];rfl
def Ac (p : Int) : Nat → Int → Nat → Int → Int
  | 0,_,_,o=>o
  | d + 1,x,k,o=>if k = 0 then o else Ac p d (x * x % p) (k / 2) (if k % 2 = 1 then o * x % p else o)
theorem XY {p : Int} (hp : 0 < p) (d : Nat) : ∀ (x : Int) (k : Nat) (o : Int),0 ≤ o∧o < p → 0 ≤ Ac p d x k o∧Ac p d x k o < p:=by
  induction d with
  | zero=>intro x k o h;exact h
  | succ d ih =>
    intro x k o h
    rw [Ac]
    split
    · exact h
    · refine ih _ _ _ ?_
      split
      · exact lQ hp _
      · exact h
theorem half {k : Nat} (h : k < 4611686018427387904) : wrap64 (Int.tdiv (k : Int) 2) = ((k / 2 : Nat) : Int):=by
  rw [Int.tdiv_eq_ediv_of_nonneg (by omega),bM (by omega) (by omega)];omega
theorem odd (k : Nat) : Int.tmod (k : Int) 2 = ((k % 2 : Nat) : Int):=by rw [lC (by omega)];omega
theorem QI {p : Int} (hp : Pm p) (d : Nat) : ∀ (x : Int) (k : Nat) (o : Int),k ≤ d → k < 4611686018427387904 → 0 ≤ x∧x < p → 0 ≤ o∧o < p →
    Ev (fun n=>fe.l0 n p x (k : Int) o) (Ac p d x k o):=by
  induction d with
  | zero =>
    intro x k o hk hk2 hx ho
    refine Ev.step (fun n=>by rw [fe.l0]) ?_
    exact Ev.neg (by omega) (Ev.now _)
  | succ d ih =>
    intro x k o hk hk2 hx ho
    rw [Ac]
    by_cases h : k = 0
    · rw [if_pos h]
      refine Ev.step (fun n=>by rw [fe.l0]) ?_
      exact Ev.neg (by omega) (Ev.now _)
    · rw [if_neg h]
      refine Ev.step (fun n=>by rw [fe.l0]) ?_
      refine Ev.pos (by omega) ?_
      rw [odd,half hk2]
      by_cases g : k % 2 = 1
      · rw [if_pos g]
        refine Ev.pos (by omega) (Ev.iL (Dz hp ho hx) (Ev.iL (Dz hp hx hx) ?_))
        exact ih _ _ _ (by omega) (by omega) (lQ hp.pos _) (lQ hp.pos _)
      · rw [if_neg g]
        refine Ev.neg (by omega) (Ev.iL (Dz hp hx hx) ?_)
        exact ih _ _ _ (by omega) (by omega) (lQ hp.pos _) ho
theorem QJ {p : Int} (hp : Pm p) (d : Nat) : ∀ (x : Int) (k : Nat) (o : Int),k ≤ d → k < 4611686018427387904 → 0 ≤ x∧x < p → 0 ≤ o∧o < p →
    Ev (fun n=>fH.l0 n p (k : Int) o x) (Ac p d x k o):=by
  induction d with
  | zero =>
    intro x k o hk hk2 hx ho
    refine Ev.step (fun n=>by rw [fH.l0]) ?_
    refine Ev.neg (by omega) (Ev.neg hp.ne (Ev.mW ?_))
    rw [lC ho.1,Int.emod_eq_of_lt ho.1 ho.2];rfl
  | succ d ih =>
    intro x k o hk hk2 hx ho
    have h1:=Cc hp hx.1 hx.2 hx.1 hx.2
    have h2:=Cc hp ho.1 ho.2 hx.1 hx.2
    rw [Ac]
    by_cases h : k = 0
    · rw [if_pos h]
      refine Ev.step (fun n=>by rw [fH.l0]) ?_
      refine Ev.neg (by omega) (Ev.neg hp.ne (Ev.mW ?_))
      rw [lC ho.1,Int.emod_eq_of_lt ho.1 ho.2]
    · rw [if_neg h]
      refine Ev.step (fun n=>by rw [fH.l0]) ?_
      refine Ev.pos (by omega) ?_
      rw [odd,half hk2,bM (x:=x * x) (by omega) (by omega),bM (x:=o * x) (by omega) (by omega),lC (a:=x * x) (by omega),lC (a:=o * x) (by omega)]
      by_cases g : k % 2 = 1
      · rw [if_pos g]
        refine Ev.pos (by omega) (Ev.neg hp.ne ?_)
        exact ih _ _ _ (by omega) (by omega) (lQ hp.pos _) (lQ hp.pos _)
      · rw [if_neg g]
        refine Ev.neg (by omega) (Ev.neg hp.ne ?_)
        exact ih _ _ _ (by omega) (by omega) (lQ hp.pos _) ho
/-- x to the k-th power modulo p. -/
def Lh (p x : Int) (k : Nat) : Int:=Ac p k x k 1
theorem ack {p : Int} (hp : Pm p) (x : Int) (k : Nat) : 0 ≤ Lh p x k∧Lh p x k < p:=XY hp.pos _ _ _ _ (by have:=hp.two;omega)
theorem QK {p : Int} (hp : Pm p) {x : Int} (hx : 0 ≤ x∧x < p) (k : Nat) (hk : k < 4611686018427387904) : Ev (fun n=>fe.f n p x (k : Int)) (Lh p x k):=by
  have h2:=hp.two
  unfold fe.f Lh
  refine Ev.iL (AO hp _) ?_
  rw [Int.emod_eq_of_lt (by omega) (by omega)]
  exact QI hp k x k 1 (Nat.le_refl _) hk hx (by omega)
theorem QL {p : Int} (hp : Pm p) {x : Int} (hx : 0 ≤ x∧x < p) (k : Nat) (hk : k < 4611686018427387904) : Ev (fun n=>fH.f n p x (k : Int)) (Lh p x k):=by
  have h2:=hp.two
  unfold fH.f Lh
  refine Ev.iL (a:=x) ?_ (QJ hp k x k 1 (Nat.le_refl _) hk hx (by omega))
  unfold jG.f
  rw [if_neg hp.ne,KY hp,Int.emod_eq_of_lt hx.1 hx.2]
/- Inverses and quotients modulo p: what the program and the reference compute; no condition. -/
/-- The power p - 2. -/
def si (p x : Int) : Int:=Lh p x (p.toNat - 2)
theorem Gt {p : Int} (hp : Pm p) (x : Int) : 0 ≤ si p x∧si p x < p:=ack hp _ _
theorem Tv {p : Int} (hp : Pm p) : wrap64 (p - 2) = ((p.toNat - 2 : Nat) : Int):=by
  have:=hp.two
  have:=hp.top
  rw [bM (by omega) (by omega)]
  omega
theorem QM {p : Int} (hp : Pm p) {x : Int} (hx : 0 ≤ x∧x < p) : Ev (fun n=>kC.f n p x) (si p x):=by
  have:=hp.top
  unfold kC.f si
  rw [Tv hp]
  exact Ev.bind (QK hp hx _ (by omega)) (Ev.now _)
theorem CG {p : Int} (hp : Pm p) {x : Int} (hx : 0 ≤ x∧x < p) : Ev (fun n=>iA.f n p x) (si p x):=by
  have:=hp.top
  unfold iA.f si
  rw [Tv hp]
  exact Ev.bind (QL hp hx _ (by omega)) (Ev.now _)
theorem JJ (c x p : Int) : (c - x % p) % p = (c - x) % p:=by
  rw [Int.sub_emod,Int.emod_emod,← Int.sub_emod]
/- Determinants modulo p by elimination, as one plain function; and a matrix in memory: a block of slices, one block a row, all of them different. No condition beside the ones named. -/
/-! ### the plain function -/
/-- The first place from i on, d places at most, whose row has a number other than 0 in column c. -/
def pivot (M : Nat → List Int) (c : Nat) : Nat → Nat → Nat
  | 0,i=>i
  | d + 1,i=>if (M i).getD c 0 = 0 then pivot M c d (i + 1) else i
def rf (M : Nat → List Int) (c j : Nat) : Nat → List Int:=fun i=>if i = c then M j else if i = j then M c else M i
def oh (p f : Int) (r own : List Int) (n : Nat) : List Int:=(List.range n).map fun k=>(r.getD k 0 - f * own.getD k 0) % p
def AY (p v : Int) (n c : Nat) (M : Nat → List Int) : Nat → List Int:=fun i=>if c < i then oh p ((M i).getD c 0 * v % p) (M i) (M c) n else M i
def uw (p : Int) (n : Nat) : Nat → Nat → (Nat → List Int) → Int → Int
  | 0,_,_,o=>o
  | d + 1,c,M,o =>
    if pivot M c (n - c) c = n then 0
    else uw p n d (c + 1) (AY p (si p ((M (pivot M c (n - c) c)).getD c 0)) n c (rf M c (pivot M c (n - c) c)))
      ((if pivot M c (n - c) c = c then o else (-o) % p) * (M (pivot M c (n - c) c)).getD c 0 % p)
def OC (p : Int) (rows : List (List Int)) : Int:=uw p rows.length rows.length 0 (fun i=>rows.getD i []) 1
/-- Square rows of numbers modulo p. -/
def QN (p : Int) (rows : List (List Int)) : Prop:=(2 ≤ p∧p ≤ 10007)∧rows.length ≤ 1000∧∀ r ∈ rows,r.length = rows.length∧Nm p r
instance (p : Int) (rows : List (List Int)) : Decidable (QN p rows):=by unfold QN;infer_instance
theorem XZ (M : Nat → List Int) (c d : Nat) : ∀ i,i ≤ pivot M c d i∧pivot M c d i ≤ i + d:=by
  induction d with
  | zero=>intro i;exact ⟨Nat.le_refl _,Nat.le_refl _⟩
  | succ d ih =>
    intro i
    rw [pivot]
    split
    · have:=ih (i + 1);omega
    · omega
theorem AZ (p f : Int) (r own : List Int) (n : Nat) : (oh p f r own n).length = n:=by simp [oh]
theorem CK {p : Int} (hp : 0 < p) (f : Int) (r own : List Int) (n : Nat) : Nm p (oh p f r own n):=fun x hx=>by
  obtain ⟨i,_,rfl⟩:=List.mem_map.1 hx
  exact lQ hp _
theorem OD (p f : Int) (r own : List Int) {n k : Nat} (h : k < n) : (oh p f r own n).getD k 0 = (r.getD k 0 - f * own.getD k 0) % p:=by
  rw [oh,List.getD_eq_getElem?_getD,List.getElem?_map,List.getElem?_range h];rfl

/-! ### a matrix in memory -/
/-- e: the type of the rows' slices, e': of the numbers; the first m rows are there. -/
structure Mx (e e' : TypeId) (w : World) (b g n m : Nat) (β κ : Nat → Nat) (M : Nat → List Int) : Prop where
  out : w.heap[g]? = some (.cells ((List.range n).map fun i=>if i < m then Value.slice (some ⟨β i,0,none⟩) n (κ i) else Value.slice none 0 0).toArray e (0,0))
  bg : b ≤ g
  mn : m ≤ n
  len : ∀ i,i < m → (M i).length = n
  cap : ∀ i,i < m → n ≤ κ i
  bb : ∀ i,i < m → b ≤ β i
  row : ∀ i,i < m → ∃ cur : Array Value,w.heap[β i]? = some (.cells cur e' (0,0))∧∀ k,k < n → cur[k]? = some (.int .i64 ((M i).getD k 0))
  ne : ∀ i j,i < m → j < m → i ≠ j → β i ≠ β j
section
variable {e e' : TypeId} {w w1 : World} {b g n m : Nat} {β κ : Nat → Nat} {M : Nat → List Int}
theorem Mx.acl (h : Mx e e' w b g n m β κ M) (he : e ≠ e') {i : Nat} (hi : i < m) : β i ≠ g:=by
  intro eq
  obtain ⟨cur,hc,_⟩:=h.row i hi
  rw [eq,h.out] at hc
  injection hc with hc
  injection hc with _ hc
  exact he hc
theorem Mx.outer (h : Mx e e' w b g n m β κ M) {i : Nat} (hi : i < m) : w.cell? ⟨g,i,none⟩ = some (.slice (some ⟨β i,0,none⟩) n (κ i)):=by
  have hm:=h.mn
  rw [bR h.out i,List.getElem?_toArray,List.getElem?_map,List.getElem?_range (by omega)]
  simp [hi]
theorem Mx.DC (h : Mx e e' w b g n m β κ M) (i : Nat) : w.frozen? ⟨g,i,none⟩ = false:=di h.out i
theorem Mx.cell (h : Mx e e' w b g n m β κ M) {i k : Nat} (hi : i < m) (hk : k < n) : w.cell? ⟨β i,k,none⟩ = some (.int .i64 ((M i).getD k 0)):=by
  obtain ⟨cur,hc,hr⟩:=h.row i hi
  rw [bR hc k]
  exact hr k hk
theorem Mx.frozen (h : Mx e e' w b g n m β κ M) {i : Nat} (hi : i < m) (k : Nat) : w.frozen? ⟨β i,k,none⟩ = false:=by
  obtain ⟨cur,hc,_⟩:=h.row i hi
  exact di hc k
theorem Mx.lt (h : Mx e e' w b g n m β κ M) {i : Nat} (hi : i < m) : β i < w.heap.size:=by
  obtain ⟨cur,hc,_⟩:=h.row i hi
  exact tJ hc
theorem Mx.step (h : Mx e e' w b g n m β κ M) (hm : ∀ k,b ≤ k → k < w.heap.size → w1.heap[k]? = w.heap[k]?) : Mx e e' w1 b g n m β κ M :=
  ⟨(hm g h.bg (tJ h.out)).trans h.out,h.bg,h.mn,h.len,h.cap,h.bb,fun i hi=>by
    obtain ⟨cur,hc,hr⟩:=h.row i hi
    exact ⟨cur,(hm _ (h.bb i hi) (tJ hc)).trans hc,hr⟩,h.ne⟩
theorem Mx.below (h : Mx e e' w b g n m β κ M) (hb : Below w.heap.size w w1) : Mx e e' w1 b g n m β κ M:=h.step fun k _ hk=>hb.block k hk
/-- A store into another block than the matrix's. -/
theorem Mx.far (h : Mx e e' w b g n m β κ M) {q : Nat} (hg : q ≠ g) (hq : ∀ i,i < m → q ≠ β i) (j : Nat) (u : Value) : Mx e e' (w.setCell ⟨q,j,none⟩ u) b g n m β κ M :=
  ⟨(Below.heap_setCell w ⟨q,j,none⟩ u g (Ne.symm hg)).trans h.out,h.bg,h.mn,h.len,h.cap,h.bb,fun i hi=>by
    obtain ⟨cur,hc,hr⟩:=h.row i hi
    exact ⟨cur,(Below.heap_setCell w ⟨q,j,none⟩ u _ (Ne.symm (hq i hi))).trans hc,hr⟩,h.ne⟩
/-- A number of a row is set. -/
theorem Mx.put (h : Mx e e' w b g n m β κ M) (he : e ≠ e') {i k : Nat} (hi : i < m) (hk : k < n) (x : Int) :
    Mx e e' (w.setCell ⟨β i,k,none⟩ (.int .i64 x)) b g n m β κ (fun t=>if t = i then (M i).set k x else M t):=by
  refine ⟨(Below.heap_setCell w ⟨β i,k,none⟩ _ g (Ne.symm (h.acl he hi))).trans h.out,h.bg,h.mn,fun t ht=>?_,h.cap,h.bb,fun t ht=>?_,h.ne⟩
  · by_cases c : t = i
    · rw [if_pos c,List.length_set];exact h.len i hi
    · rw [if_neg c];exact h.len t ht
  · by_cases c : t = i
    · subst c
      obtain ⟨cur,hc,hr⟩:=h.row t ht
      refine ⟨cur.setIfInBounds k (.int .i64 x),uy hc k _,fun j hj=>?_⟩
      have hl:=h.len t ht
      rw [if_pos rfl]
      by_cases d : k = j
      · subst d
        have hs : k < cur.size:=by
          have:=hr k hk
          exact (Array.getElem?_eq_some_iff.1 this).1
        rw [Array.getElem?_setIfInBounds_self_of_lt hs,List.getD_eq_getElem?_getD,List.getElem?_set_self (by omega)];rfl
      · rw [Array.getElem?_setIfInBounds_ne d,hr j hj,List.getD_eq_getElem?_getD,List.getD_eq_getElem?_getD,List.getElem?_set_ne d]
    · obtain ⟨cur,hc,hr⟩:=h.row t ht
      refine ⟨cur,(Below.heap_setCell w ⟨β i,k,none⟩ _ _ (h.ne t i ht hi c)).trans hc,fun j hj=>?_⟩
      rw [if_neg c]
      exact hr j hj
/-- Two rows change their places. -/
theorem Mx.swap (h : Mx e e' w b g n n β κ M) (he : e ≠ e') {c j : Nat} (hc : c < n) (hj : j < n) :
    Mx e e' ((w.setCell ⟨g,c,none⟩ (.slice (some ⟨β j,0,none⟩) n (κ j))).setCell ⟨g,j,none⟩ (.slice (some ⟨β c,0,none⟩) n (κ c))) b g n n
      (fun i=>if i = j then β c else if i = c then β j else β i) (fun i=>if i = j then κ c else if i = c then κ j else κ i) (fun i=>if i = j then M c else if i = c then M j else M i):=by
  refine ⟨?_,h.bg,Nat.le_refl _,fun i hi=>?_,fun i hi=>?_,fun i hi=>?_,fun i hi=>?_,fun i t hi ht hit=>?_⟩
  · have h1:=uy (uy h.out c (.slice (some ⟨β j,0,none⟩) n (κ j))) j (.slice (some ⟨β c,0,none⟩) n (κ c))
    rw [h1]
    congr 2
    apply Array.ext
    · simp
    · intro i h1 h2
      have hi : i < n:=by simpa using h2
      simp only [List.getElem_toArray,List.getElem_map,List.getElem_range,hi,if_true]
      by_cases c1 : i = j
      · subst c1;simp
      · by_cases c2 : i = c
        · subst c2;simp [Ne.symm c1,c1]
        · simp [Ne.symm c1,Ne.symm c2,c1,c2,hi]
  · by_cases c1 : i = j
    · rw [if_pos c1];exact h.len c hc
    · by_cases c2 : i = c
      · rw [if_neg c1,if_pos c2];exact h.len j hj
      · rw [if_neg c1,if_neg c2];exact h.len i hi
  · by_cases c1 : i = j
    · rw [if_pos c1];exact h.cap c hc
    · by_cases c2 : i = c
      · rw [if_neg c1,if_pos c2];exact h.cap j hj
      · rw [if_neg c1,if_neg c2];exact h.cap i hi
  · by_cases c1 : i = j
    · rw [if_pos c1];exact h.bb c hc
    · by_cases c2 : i = c
      · rw [if_neg c1,if_pos c2];exact h.bb j hj
      · rw [if_neg c1,if_neg c2];exact h.bb i hi
  · have far : ∀ q,q < n → ((w.setCell ⟨g,c,none⟩ (.slice (some ⟨β j,0,none⟩) n (κ j))).setCell ⟨g,j,none⟩ (.slice (some ⟨β c,0,none⟩) n (κ c))).heap[β q]? = w.heap[β q]?:=by
      intro q hq
      rw [Below.heap_setCell _ _ _ _ (h.acl he hq),Below.heap_setCell _ _ _ _ (h.acl he hq)]
    by_cases c1 : i = j
    · simp only [if_pos c1]
      obtain ⟨cur,hh,hr⟩:=h.row c hc
      exact ⟨cur,(far c hc).trans hh,hr⟩
    · by_cases c2 : i = c
      · simp only [if_neg c1,if_pos c2]
        obtain ⟨cur,hh,hr⟩:=h.row j hj
        exact ⟨cur,(far j hj).trans hh,hr⟩
      · simp only [if_neg c1,if_neg c2]
        obtain ⟨cur,hh,hr⟩:=h.row i hi
        exact ⟨cur,(far i hi).trans hh,hr⟩
  · have n1:=h.ne
    by_cases a1 : i = j
    · by_cases a2 : t = c
      · rw [if_pos a1,if_neg (by omega),if_pos a2]
        by_cases a3 : c = j
        · omega
        · exact n1 c j hc hj a3
      · rw [if_pos a1,if_neg (by omega),if_neg a2]
        by_cases a3 : c = t
        · omega
        · exact n1 c t hc ht a3
    · by_cases a2 : i = c
      · rw [if_neg a1,if_pos a2]
        by_cases a3 : t = j
        · rw [if_pos a3];exact n1 j c hj hc (by omega)
        · rw [if_neg a3,if_neg (by omega)];exact n1 j t hj ht (by omega)
      · rw [if_neg a1,if_neg a2]
        by_cases a3 : t = j
        · rw [if_pos a3];exact n1 i c hi hc a2
        · by_cases a4 : t = c
          · rw [if_neg a3,if_pos a4];exact n1 i j hi hj a1
          · rw [if_neg a3,if_neg a4];exact n1 i t hi ht hit
/-- One more row is put. -/
theorem Mx.more (h : Mx e e' w b g n m β κ M) (he : e ≠ e') (hm : m < n) {q c : Nat} {cur : Array Value} (hq : w.heap[q]? = some (.cells cur e' (0,0))) (hb : b ≤ q) (hc : n ≤ c) (l : List Int) (hl : l.length = n)
    (hr : ∀ k,k < n → cur[k]? = some (.int .i64 (l.getD k 0))) (hne : ∀ i,i < m → β i ≠ q) :
    Mx e e' (w.setCell ⟨g,m,none⟩ (.slice (some ⟨q,0,none⟩) n c)) b g n (m + 1) (fun i=>if i = m then q else β i) (fun i=>if i = m then c else κ i) (fun i=>if i = m then l else M i):=by
  have hqg : q ≠ g:=by
    intro eq
    rw [eq,h.out] at hq
    injection hq with hq
    injection hq with _ hq
    exact he hq
  refine ⟨?_,h.bg,hm,fun i hi=>?_,fun i hi=>?_,fun i hi=>?_,fun i hi=>?_,fun i j hi hj hij=>?_⟩
  · rw [uy h.out m]
    congr 2
    apply Array.ext
    · simp
    · intro i h1 h2
      have hi : i < n:=by simpa using h2
      simp only [List.getElem_toArray,List.getElem_map,List.getElem_range]
      by_cases c1 : i = m
      · subst c1;simp
      · by_cases c2 : i < m
        · simp [Ne.symm c1,c1,c2,show i < m + 1 from by omega]
        · simp [Ne.symm c1,c2,show ¬ i < m + 1 from by omega]
  · by_cases c1 : i = m
    · rw [if_pos c1];exact hl
    · rw [if_neg c1];exact h.len i (by omega)
  · by_cases c1 : i = m
    · rw [if_pos c1];exact hc
    · rw [if_neg c1];exact h.cap i (by omega)
  · by_cases c1 : i = m
    · rw [if_pos c1];exact hb
    · rw [if_neg c1];exact h.bb i (by omega)
  · by_cases c1 : i = m
    · simp only [if_pos c1]
      exact ⟨cur,(Below.heap_setCell w ⟨g,m,none⟩ _ q hqg).trans hq,hr⟩
    · simp only [if_neg c1]
      obtain ⟨cu,hh,hr'⟩:=h.row i (by omega)
      exact ⟨cu,(Below.heap_setCell w ⟨g,m,none⟩ _ _ (h.acl he (by omega))).trans hh,hr'⟩
  · by_cases c1 : i = m
    · rw [if_pos c1,if_neg (by omega)];exact Ne.symm (hne j (by omega))
    · rw [if_neg c1]
      by_cases c2 : j = m
      · rw [if_pos c2];exact hne i (by omega)
      · rw [if_neg c2];exact h.ne i j (by omega) (by omega) hij
end
/- Quotients modulo p in the program; no condition. -/
theorem CL {p : Int} (hp : Pm p) {x y : Int} (hx : 0 ≤ x∧x < p) (hy : 0 ≤ y∧y < p) : Ev (fun n=>jR.f n p x y) (x * si p y % p):=by
  unfold jR.f
  exact Ev.bind (QM hp hy) (Ev.iL (Dz hp hx (Gt hp y)) (Ev.now _))
/- What the walk of the determinant leans on: a matrix as a list of rows that is read, its making, its cuts, the search for a pivot, and the callees in plain form. -/
theorem addr_add (g c j : Nat) : (⟨g,c,none⟩ : Addr).add j = ⟨g,c + j,none⟩:=by unfold Addr.add;split <;> simp_all
/-- The m rows from c on. -/
def sG (M : Nat → List Int) (c m : Nat) : List (List Int):=(List.range m).map fun j=>M (c + j)
theorem rV (M : Nat → List Int) (c m : Nat) : (sG M c m).length = m:=by simp [sG]
theorem DD (M : Nat → List Int) (c : Nat) {m j : Nat} (h : j < m) : (sG M c m).getD j [] = M (c + j):=by
  rw [sG,List.getD_eq_getElem?_getD,List.getElem?_map,List.getElem?_range h];rfl
/-- Where the cut from c on begins. -/
def cutAt (g n c : Nat) : Addr:=if n = c then ⟨g,0,none⟩ else ⟨g,c,none⟩
section
variable {e e' : TypeId} {w w1 : World} {b g n m : Nat} {β κ : Nat → Nat} {M : Nat → List Int}
theorem Mx.av2 (h : Mx e e' w b g n m β κ M) (hn : n ≤ 1000) {i : Nat} (hi : i < m) : Kd.C (Kd.int .i64) w (some ⟨β i,0,none⟩) n (M i) :=
  ⟨h.len i hi,by omega,fun h0=>⟨_,rfl,fun j p hj=>⟨[.int .i64 p],rfl,rfl,fun t u hu=>by
    cases t with
    | zero =>
      have hl : j < n:=by have:=(List.getElem?_eq_some_iff.1 hj).1;have:=h.len i hi;omega
      have hu : Value.int .i64 p = u:=by simpa using hu
      subst hu
      have he : (⟨β i,0,none⟩ : Addr).add (j * (Kd.int .i64).sz + 0) = ⟨β i,j,none⟩:=by rw [addr_add];show (⟨β i,0 + (j * 1 + 0),none⟩ : Addr) = _;rw [show 0 + (j * 1 + 0) = j from by omega]
      rw [he,h.cell hi hl,List.getD_eq_getElem?_getD,hj];rfl
    | succ t=>simp at hu⟩⟩⟩
theorem Mx.C (h : Mx e e' w b g n n β κ M) (hn : n ≤ 1000) {c : Nat} (hc : c ≤ n) : Kd.C (Kd.slice e' (Kd.int .i64)) w (some (cutAt g n c)) (sG M c (n - c)).length (sG M c (n - c)) :=
  ⟨rfl,by rw [rV];omega,fun h0=>⟨_,rfl,fun j p hj=>by
    rw [rV] at h0
    have hl : j < n - c:=by have:=(List.getElem?_eq_some_iff.1 hj).1;rwa [rV] at this
    have hp : M (c + j) = p:=by
      have:=DD M c hl
      rw [List.getD_eq_getElem?_getD,hj] at this
      exact this.symm
    subst hp
    have hlen:=h.len (c + j) (by omega)
    refine ⟨[.slice (some ⟨β (c + j),0,none⟩) (M (c + j)).length (κ (c + j))],rfl,⟨_,_,rfl,by rw [hlen];exact h.cap _ (by omega),by rw [hlen];exact h.av2 hn (by omega)⟩,fun t u hu=>?_⟩
    cases t with
    | zero =>
      have hu : Value.slice (some ⟨β (c + j),0,none⟩) (M (c + j)).length (κ (c + j)) = u:=by simpa using hu
      subst hu
      have he : (cutAt g n c).add (j * (Kd.slice e' (Kd.int .i64)).sz + 0) = ⟨g,c + j,none⟩:=by
        rw [cutAt,if_neg (by omega),addr_add];show (⟨g,c + (j * 1 + 0),none⟩ : Addr) = _;rw [show c + (j * 1 + 0) = c + j from by omega]
      rw [he,h.outer (show c + j < n from by omega),hlen]
    | succ t=>simp at hu⟩⟩
theorem Mx.ahP (h : Mx e e' w b g n m β κ M) {i : Nat} (hm : m ≤ i) (hi : i < n) : w.cell? ⟨g,i,none⟩ = some (.slice none 0 0):=by
  rw [bR h.out i,List.getElem?_toArray,List.getElem?_map,List.getElem?_range hi]
  simp [show ¬ i < m from by omega]
/-- A row of one's own, its block laid open. -/
theorem IC {e : Nat} {ok : Nat → Prop} {v : Value} {l : List Int} {base : Nat} (h : Kd.R (Kd.int .i64) e w base ok v l) (h0 : 0 < l.length) :
    ∃ q c cur,v = .slice (some ⟨q,0,none⟩) l.length c∧base ≤ q∧l.length ≤ c∧w.heap[q]? = some (.cells cur e (0,0))∧∀ k,k < l.length → cur[k]? = some (.int .i64 (l.getD k 0)):=by
  obtain ⟨q,c,rfl,hb,_,cur,hc⟩:=Kd.AQ h h0
  obtain ⟨_,hl,hC⟩:=Kd.aH h
  refine ⟨q,c,cur,rfl,hb,hl,hc,fun k hk=>?_⟩
  obtain ⟨ad,ea,hx⟩:=Kd.ic hC (k : Int) (by omega) (by omega)
  cases ea
  rw [kU,add_plain,bR hc,mM] at hx
  exact hx
end
/-- The cut from c on. -/
theorem Tw {P : Program} {t e : TypeId} (ht : P.underlying t = some (.slice e)) (hs : (P.info? e).map (fun i=>i.size) = some 1) (g n c : Nat) (hc : c ≤ n) (W : World) :
    (Instr.slice t (.slice (some ⟨g,0,none⟩) n n) (some (.int .i64 (c : Int))) none none).run P W = .ok (.slice (some (cutAt g n c)) (n - c) (n - c)) W:=by
  obtain ⟨i,hi,hsz⟩:=Option.map_eq_some_iff.1 hs
  have hel : P.elem t = e:=by simp [Program.elem,ht]
  have hu : P.underlying t = some (.slice (P.elem t)):=by rw [hel];exact ht
  rw [run_slice_l W t _ n n hu .i64 (c : Int) (Int.natCast_nonneg _) (by omega),hel]
  have hsz : i.size = 1:=hsz
  simp [sizeOf,typeInfo,hi,hsz,sliced,Result.andThen,cutAt,addr_add]
  split <;> rfl
section
variable {P : Program} {ops : Array Oper} {Q : Exit → Act → World → Prop} {rest : List Oper} {oi : Oper} {a : Act} {w : World}
set_option linter.unusedVariables false in
/-- make([][]int64, n). -/
theorem acm (N : Tmp) {t e e' : TypeId} {x y : Operand} (n : Nat) (ht : P.underlying t = some (.slice e)) (hinfo : (P.info? e).map (fun i=>(i.zero,i.size,i.bytes)) = some (some (.slice none 0 0),1,24)) (hn : n ≤ 1000) (β κ : Nat → Nat) (M : Nat → List Int)
    (h : ∀ g,g = w.heap.size → ∀ w1,Mx e e' w1 w.heap.size g n 0 β κ M → Below w.heap.size w w1 → wpList P ops Q rest (a.put oi.dst (.slice (some ⟨g,0,none⟩) n n)) w1)
    (hd : oi.dst = some N:=by rfl) (hg : oi.guard = none:=by rfl) (ho : oi.op = .makeSlice t x y:=by rfl) (hx : a.eval x = .int .i64 (n : Int):=by rfl) (hy : a.eval y = .int .i64 (n : Int):=by rfl) : wpList P ops Q (oi :: rest) a w:=by
  obtain ⟨i0,hi,hz⟩:=Option.map_eq_some_iff.1 hinfo
  simp only [Prod.mk.injEq] at hz
  obtain ⟨hz0,hz1,hz2⟩:=hz
  have hr:=run_make (P:=P) w t e i0 _ ht hi hz0 .i64 .i64 (n : Int) (n : Int) (by omega) (by omega) (by rw [hz2];omega) (by omega)
  simp only [Int.toNat_natCast] at hr
  rw [hz1] at hr
  refine Kd.ET hg (w1:=w.alloc (.cells (madeCells (Value.slice none 0 0).cells (n * 1)) e)) (v:=.slice (some ⟨w.heap.size,0,none⟩) n n) (by simp [execOp,ho,hx,hy,hr]) (h _ rfl _ ?_ (gG (Below.refl _ _) _))
  have hb:=Tx w (.cells (madeCells (Value.slice none 0 0).cells (n * 1)) e)
  refine ⟨hb.trans ?_,Nat.le_refl _,Nat.zero_le _,fun i hi=>absurd hi (by omega),fun i hi=>absurd hi (by omega),fun i hi=>absurd hi (by omega),fun i hi=>absurd hi (by omega),fun i j hi=>absurd hi (by omega)⟩
  congr 2
  apply Array.ext
  · simp [madeCells]
  · intro i h1 h2
    simp [madeCells,Value.cells,Nat.mod_one]
end
/-! ### two loads of which each may come up first -/
section
variable {P : Program} {ops : Array Oper} {Q : Exit → Act → World → Prop} {S : World → Prop} {ds : List Nat} {T : Bool × List (List Nat × List Nat)} {fuel : Nat} {l : Array Bool} {a a' ai aj : Act} {w : World} {oi oj : Oper} {vi vj : Value}
theorem av3 (i j : Nat) (Ni Nj : Tmp) (li lj l' : Array Bool) (HT : aa (nI .any ops = T)) (hS : S w) (h : bY P .any ops Q S ds fuel l' a' w)
    (hi : ops[i]? = some oi:=by rfl) (hj : ops[j]? = some oj:=by rfl) (hNi : oi.dst = some Ni:=by rfl) (hNj : oj.dst = some Nj:=by rfl)
    (hc : (xI T.2 l.toList == [i,j] && l.toList.set i true == li.toList && l.toList.set j true == lj.toList) = true:=by kernel_rfl)
    (hci : (xI T.2 li.toList == [j] && li.toList.set j true == l'.toList) = true:=by kernel_rfl) (hcj : (xI T.2 lj.toList == [i] && lj.toList.set i true == l'.toList) = true:=by kernel_rfl)
    (hdi : i ∉ ds:=by decide) (hdj : j ∉ ds:=by decide)
    (hwi : Region.wanted oi (yielded ops a.tmps) = true:=by rfl) (hwj : Region.wanted oj (yielded ops a.tmps) = true:=by rfl)
    (ri : (execOp a.eval oi).run P w = .ok (.value vi) w:=by (go_simp;with_reducible rfl)) (rj : (execOp a.eval oj).run P w = .ok (.value vj) w:=by (go_simp;with_reducible rfl))
    (hai : a.put (some Ni) vi = ai:=by (simp only [Act.put,ls,lz,ln,jd,kQ];rfl)) (haj : a.put (some Nj) vj = aj:=by (simp only [Act.put,ls,lz,ln,jd,kQ];rfl))
    (hwj' : Region.wanted oj (yielded ops ai.tmps) = true:=by rfl) (hwi' : Region.wanted oi (yielded ops aj.tmps) = true:=by rfl)
    (rj' : (execOp ai.eval oj).run P w = .ok (.value vj) w:=by first | (go_simp;done) | (go_simp;with_reducible rfl)) (ri' : (execOp aj.eval oi).run P w = .ok (.value vi) w:=by first | (go_simp;done) | (go_simp;with_reducible rfl))
    (h1 : ai.put (some Nj) vj = a':=by (simp only [Act.put,ls,lz,ln,jd,kQ];rfl)) (h2 : aj.put (some Ni) vi = a':=by first | (simp only [Act.put,ls,lz,ln,jd,kQ];done) | (simp only [Act.put,ls,lz,ln,jd,kQ];rfl)) : bY P .any ops Q S ds (fuel + 2) l a w:=by
  subst hai
  subst haj
  exact X0 li lj hi hj hNi hNj (Lb HT.out hc) hdi hdj (fun K hK=>EM hwi hNi ri (hK.out _ _ hS (fun _=>lo_ j Nj l' HT hS h hj hNj hci hdj hwj' rj' h1)))
    (fun K hK=>EM hwj hNj rj (hK.out _ _ hS (fun _=>lo_ i Ni l' HT hS h hi hNi hcj hdi hwi' ri' h2)))
end
theorem Mx.QO {e e' : TypeId} {w : World} {b g n m : Nat} {β κ : Nat → Nat} {M : Nat → List Int} (h : Mx e e' w b g n m β κ M) {q : Nat} {cs : Array Value} {t : TypeId} (hb : w.heap[q]? = some (.cells cs t (0,0))) (h1 : t ≠ e) (h2 : t ≠ e') : q ≠ g∧∀ i,i < m → q ≠ β i :=
  ⟨QP hb h.out h1,fun i hi=>by
    obtain ⟨cur,hc,_⟩:=h.row i hi
    exact QP hb hc h2⟩
theorem Mx.congr {e e' : TypeId} {w : World} {b g n m : Nat} {β κ : Nat → Nat} {M M' : Nat → List Int} (h : Mx e e' w b g n m β κ M) (hM : ∀ i,i < m → M i = M' i) : Mx e e' w b g n m β κ M' :=
  ⟨h.out,h.bg,h.mn,fun i hi=>by rw [← hM i hi];exact h.len i hi,h.cap,h.bb,fun i hi=>by rw [← hM i hi];exact h.row i hi,h.ne⟩
theorem V6 {g n c : Nat} (h : c < n) (j : Nat) : (cutAt g n c).add j = ⟨g,c + j,none⟩:=by rw [cutAt,if_neg (by omega),addr_add]
/-! ### a row of which the first k numbers are done -/
def rq (p f : Int) (r own : List Int) (n k : Nat) : List Int:=(List.range n).map fun q=>if q < k then (r.getD q 0 - f * own.getD q 0) % p else r.getD q 0
theorem Ba (p f : Int) (r own : List Int) (n k : Nat) : (rq p f r own n k).length = n:=by simp [rq]
theorem OE (p f : Int) (r own : List Int) {n k q : Nat} (h : q < n) : (rq p f r own n k).getD q 0 = if q < k then (r.getD q 0 - f * own.getD q 0) % p else r.getD q 0:=by
  rw [rq,List.getD_eq_getElem?_getD,List.getElem?_map,List.getElem?_range h];rfl
theorem Li (p f : Int) {r : List Int} (own : List Int) {n : Nat} (h : r.length = n) : rq p f r own n 0 = r:=by
  subst h
  apply List.ext_getElem (Ba _ _ _ _ _ _)
  intro i h1 h2
  simp [rq,List.getD_eq_getElem?_getD,List.getElem?_eq_getElem h2]
theorem OG (p f : Int) (r own : List Int) (n : Nat) : rq p f r own n n = oh p f r own n:=by
  unfold rq oh
  refine List.map_congr_left fun q hq=>?_
  rw [if_pos (List.mem_range.1 hq)]
theorem OH (p f : Int) (r own : List Int) (n k : Nat) : (rq p f r own n k).set k ((r.getD k 0 - f * own.getD k 0) % p) = rq p f r own n (k + 1):=by
  apply List.ext_getElem (by rw [List.length_set,Ba,Ba])
  intro i h1 h2
  rw [List.getElem_set]
  by_cases hi : k = i
  · subst hi
    rw [if_pos rfl]
    simp [rq]
  · rw [if_neg hi]
    simp only [rq,List.getElem_map,List.getElem_range]
    by_cases hk : i < k
    · rw [if_pos hk,if_pos (by omega)]
    · rw [if_neg hk,if_neg (by omega)]
/-! ### the search -/
theorem acn {l : List Int} {c : Nat} (h : c < l.length) : gP.f l (c : Int) = some (l.getD c 0 != 0):=by
  unfold gP.f
  rw [if_pos (by omega),if_pos (by omega),mM]
theorem aco (M : Nat → List Int) (c m : Nat) (hm : m ≤ 1000) (hl : ∀ j,j < m → c < (M (c + j)).length) (d : Nat) : ∀ i,i + d = m →
    bK.l0 (d + 1) (sG M c m) (fun z=>gP.f z (c : Int)) (m : Int) (i : Int) = some (if pivot M c d (c + i) = c + m then -1 else ((pivot M c d (c + i) - c : Nat) : Int)):=by
  induction d with
  | zero =>
    intro i hi
    rw [bK.l0,if_neg (by omega),pivot,if_pos (by omega)]
  | succ d ih =>
    intro i hi
    rw [bK.l0,if_pos (by omega),if_pos (by omega),if_pos (by rw [rV];omega),sQ,DD _ _ (by omega),acn (hl i (by omega)),Option.bind_some,pivot]
    by_cases h0 : (M (c + i)).getD c 0 = 0
    · rw [if_neg (by simp only [h0];decide),if_pos h0,kz (n:=1001) (by omega) (by omega)]
      exact ih (i + 1) (by omega)
    · rw [if_pos (bne_iff_ne.2 h0),if_neg h0,if_neg (by omega),show c + i - c = i from by omega]
theorem X3 (M : Nat → List Int) (c m : Nat) (hm : m ≤ 1000) (hl : ∀ j,j < m → c < (M (c + j)).length) :
    bK.f (m + 1) (sG M c m) (fun z=>gP.f z (c : Int)) = some (if pivot M c m c = c + m then -1 else ((pivot M c m c - c : Nat) : Int)):=by
  unfold bK.f
  rw [rV]
  exact aco M c m hm hl m 0 (by omega)
/-! ### the callees -/
theorem EU {p : Int} (hp : Pm p) (x : Int) (w : World) : Calls Try.prog 67 #[.int .i64 p,.int .i64 x] w fun e w'=>e = .returned (.int .i64 (x % p))∧aT w w' :=
  fF.calls p x _ w (AO hp x)
theorem QQ {p : Int} (hp : Pm p) {x y : Int} (h : x % p = y) (w : World) : Calls Try.prog 67 #[.int .i64 p,.int .i64 x] w fun e w'=>e = .returned (.int .i64 y)∧aT w w' :=
  h ▸ EU hp x w
theorem V7 {p : Int} (hp : Pm p) {x y : Int} (hx : 0 ≤ x∧x < p) (hy : 0 ≤ y∧y < p) (w : World) : Calls Try.prog 96 #[.int .i64 p,.int .i64 x,.int .i64 y] w fun e w'=>e = .returned (.int .i64 (x * y % p))∧aT w w' :=
  je.calls p x y _ w (Dz hp hx hy)
theorem V8 {p : Int} (hp : Pm p) {x y : Int} (hx : 0 ≤ x∧x < p) (hy : 0 ≤ y∧y < p) (w : World) : Calls Try.prog 72 #[.int .i64 p,.int .i64 x,.int .i64 y] w fun e w'=>e = .returned (.int .i64 (x * si p y % p))∧aT w w':=by
  obtain ⟨K,h⟩:=CL hp hx hy
  exact jR.calls K p x y _ w (h K (Nat.le_refl _))
theorem QR {w : World} {b g n c gq : Nat} {β κ : Nat → Nat} {M : Nat → List Int} {v : Int} (h : Mx 24 2 w b g n n β κ M) (hn : n ≤ 1000) (hc : c < n) (hbox : w.heap[gq]? = some (.cells #[.int .i64 (c : Int)] 3 (0,0)))
    (hv : v = if pivot M c (n - c) c = n then -1 else ((pivot M c (n - c) c - c : Nat) : Int)) :
    Calls Try.prog 102 #[.slice (some (cutAt g n c)) (n - c) (n - c),.func (.func 103) #[] #[.pointer (some ⟨gq,0,none⟩)]] w fun e w'=>e = .returned (.int .i64 v)∧Below w.heap.size w w':=by
  have hl : ∀ j,j < n - c → c < (M (c + j)).length:=fun j hj=>by rw [h.len (c + j) (by omega)];exact hc
  have hf:=X3 M c (n - c) (by omega) hl
  rw [show c + (n - c) = n from by omega,← hv] at hf
  have hC:=h.C hn (Nat.le_of_lt hc)
  have hlen:=rV M c (n - c)
  refine dA (args':=#[.slice (some (cutAt g n c)) (sG M c (n - c)).length (n - c),.func (.func 103) #[] #[.pointer (some ⟨gq,0,none⟩)]]) (by rw [hlen]) ?_
  refine bK.calls (n - c + 1) _ _ (sG M c (n - c)) _ (fun z=>gP.f z (c : Int)) v w hC (by rw [hlen];exact Nat.le_refl _) ?_ hf
  refine FnL.of Try.func103 (by kernel_rfl) rfl (fun z r A c0 hr W hW hCz hc0=>dA (args':=#[.slice A z.length c0,.pointer (some ⟨gq,0,none⟩)]) (by simp) ?_)
  refine (gP.calls A c0 z gq (c : Int) r W hCz hc0 (bW hbox hW) hr).mono ?_
  rintro e w' ⟨rfl,⟨nd,rfl⟩⟩
  exact ⟨rfl,aZ (Below.refl _ _) _⟩
theorem QS {p : Int} (hp : Pm p) {x y z : Int} (hx : 0 ≤ x∧x < p) (hy : 0 ≤ y∧y < p) (h : x * y % p = z) (w : World) : Calls Try.prog 96 #[.int .i64 p,.int .i64 x,.int .i64 y] w fun e w'=>e = .returned (.int .i64 z)∧aT w w' :=
  h ▸ V7 hp hx hy w
theorem QT {p : Int} (hp : Pm p) {x y z : Int} (hx : 0 ≤ x∧x < p) (hy : 0 ≤ y∧y < p) (h : x * si p y % p = z) (w : World) : Calls Try.prog 72 #[.int .i64 p,.int .i64 x,.int .i64 y] w fun e w'=>e = .returned (.int .i64 z)∧aT w w' :=
  h ▸ V8 hp hx hy w
theorem OI {l : List Int} {n c : Nat} {A : Option Addr} {w : World} (hl : l.length = n) (h0 : 0 < n) (hn : n ≤ 1000) (hC : Kd.C (Kd.int .i64) w A n l) (hc : n ≤ c) :
    Calls Try.prog 91 #[.slice A n c] w fun e w'=>∃ q c' cur,e = .returned (.slice (some ⟨q,0,none⟩) n c')∧w.heap.size ≤ q∧n ≤ c'∧w'.heap[q]? = some (.cells cur 2 (0,0))∧(∀ k,k < n → cur[k]? = some (.int .i64 (l.getD k 0)))∧Below w.heap.size w w':=by
  subst hl
  refine (lS.calls A c l l w hC hc (by unfold lS.f;rw [if_pos (by omega)])).mono ?_
  rintro e w' ⟨v,rfl,hR,hb⟩
  obtain ⟨q,c',cur,rfl,h1,h2,h3,h4⟩:=IC hR h0
  exact ⟨q,c',cur,rfl,h1,h2,h3,h4,hb⟩
end Go.Proofs.Ytilbjbahmilhkaa.Pr
