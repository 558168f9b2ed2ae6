/- The draws of FnMomentChanges. -/
import Derived.Test.YtilbjbahmilhkaaKtChanges8
import Derived.Test.YtilbjbahmilhkaaKtChanges6
import Derived.Test.YtilbjbahmilhkaaKFspecDrawAddMoments
namespace Go.Proofs.Ytilbjbahmilhkaa.Pr
open Go Go.RowKit Go.Proofs.YtilbjbahmilhkaaW.PrintWords Go.Proofs.YtilbjbahmilhkaaW.PrintLast Go.Proofs.YtilbjbahmilhkaaW.PrintMore

section
variable {c : List Int} (hb : ∀ x ∈ c,0 ≤ x∧x < 256) (hl : c.length ≤ 4096)
include hb hl
theorem NW : Ex (fun k=>dB.f k c) (fun r=>Sm r.2.1.length):=by
  unfold dB.f
  refine Ex.bind (PM hb hl) (fun a ha=>?_)
  obtain ⟨e,st⟩:=ha
  rw [e]
  refine Ex.bind (Gw st _) (fun b hb=>Ex.bind (Fs _) (fun q hq=>?_))
  have hp:=fV.pm hq
  refine Ex.neg hp.ne (Ex.bind (mo hb.1 _ _) (fun d hd=>Ex.bind (zw hd.1 _ _ (by simp)) (fun e he=>Ex.bind (mo he.1 _ _) (fun g hg=>Ex.bind (mo hg.1 _ _) (fun _ _=>Ex.now ?_)))))
  have:=hb.2
  dsimp only;unfold Sm;omega
theorem NY : Ex (fun k=>bH.f k c) (fun r=>Sm r.2.1.length∧Sm r.2.2.2.1.length):=by
  unfold bH.f
  refine Ex.bind (PM hb hl) (fun a ha=>?_)
  obtain ⟨e,st⟩:=ha
  rw [e]
  refine Ex.bind (Gw st _) (fun b hb=>Ex.bind (Fs _) (fun q hq=>?_))
  have h1:=hb.2
  have hn : mn (mx (b.2.1.length : Int) 1) 24 ≤ 100:=by
    unfold mn
    split <;> omega
  refine Ex.bind (IG hb.1 _ _ _ hq hn) (fun d hd=>Ex.bind (mo hd.1 _ _) (fun e he=>Ex.ite (fun _=>?_) (fun _=>?_)))
  · refine Ex.bind (Gw he.1 _) (fun g hg=>Ex.bind (Fs _) (fun _ _=>Ex.bind (mo hg.1 _ _) (fun x hx=>Ex.bind (mo hx.1 _ _) (fun _ _=>Ex.now ?_))))
    have:=hg.2
    exact ⟨by dsimp only;unfold Sm;omega,by dsimp only;unfold Sm;omega⟩
  · refine Ex.bind (Fs _) (fun _ _=>Ex.bind (mo he.1 _ _) (fun x hx=>Ex.bind (mo hx.1 _ _) (fun _ _=>Ex.now ?_)))
    have:=hd.2
    exact ⟨by dsimp only;unfold Sm;omega,by dsimp only;unfold Sm;omega⟩
end
end Go.Proofs.Ytilbjbahmilhkaa.Pr
