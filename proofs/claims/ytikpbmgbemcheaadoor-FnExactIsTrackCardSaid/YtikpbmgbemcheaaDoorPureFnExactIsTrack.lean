/-
  The pure statement of the law FnExactIsTrack: program and reference answer alike, and the rows stay as they were, whatever the rows.
-/
import Derived.Test.YtikpbmgbemcheaaDoorQ18
import Derived.Test.YtikpbmgbemcheaaDoorTrackImpl
namespace Go.Proofs.YtikpbmgbemcheaaDoor.Pure
open Go.RowKit Go.Proofs.YtikpbmgbemcheaaDoor.Q Go.Proofs.YtikpbmgbemcheaaDoorW.PrintWords Go.Proofs.YtikpbmgbemcheaaDoorW.PrintLast Go.Proofs.YtikpbmgbemcheaaDoorW.PrintMore Go.Proofs.YtikpbmgbemcheaaDoor.B

theorem FnExactIsTrack (l : List ByteArray) (hm : l.length ≤ maxLen) (hs : ∀ s ∈ l, s.size ≤ maxLen) : Ev (fun k => laws_FnExactIsTrack.f k l) true := by
  unfold laws_FnExactIsTrack.f
  obtain ⟨z, hz, h⟩ := szStrs l hm hs
  refine evB hz ?_
  rcases h with h | ⟨h, hl⟩
  · exact evT h (evS _)
  · refine evF (by omega) (evB (toStrs l hl.1) (evB (a := isT l) (by unfold spec_IsTrack.f; exact evB (track_spec l) (evS _)) (evB (toStrs l hl.1) (evG (track_impl l hl) ?_))))
    exact evF (by simp) (evB (toStrs l hl.1) (evB (eqStrs l hl.1) (evT rfl (evS _))))
end Go.Proofs.YtikpbmgbemcheaaDoor.Pure
