/-
  The pure statement of the law FnExactSquaresReached: program and reference answer alike, and the rows stay as they were, whatever the arguments.
-/
import Derived.Test.YtjblefcdihmdbaaDoorQ14
import Derived.Test.YtjblefcdihmdbaaDoorSquaresPure
namespace Go.Proofs.YtjblefcdihmdbaaDoor.Pure
open Go.RowKit Go.Proofs.YtjblefcdihmdbaaDoor.Q Go.Proofs.YtjblefcdihmdbaaDoorW.PrintWords Go.Proofs.YtjblefcdihmdbaaDoorW.PrintLast Go.Proofs.YtjblefcdihmdbaaDoorW.PrintMore Go.Proofs.YtjblefcdihmdbaaDoor.B

theorem FnExactSquaresReached (l : List ByteArray) (a1 : Int) (hm : l.length ≤ maxLen) (hs : ∀ s ∈ l, s.size ≤ maxLen) (_ : (Lit.int .i64 a1).wf = true) :
    Ev (fun k => laws_FnExactSquaresReached.f k l a1) true := by
  unfold laws_FnExactSquaresReached.f
  obtain ⟨z, hz, h⟩ := szStrs l hm hs
  refine evB hz ?_
  rcases h with h | ⟨h, hl⟩
  · exact evT h (evS _)
  · obtain ⟨r, e, h1, h2⟩ := both_squares l hl a1
    refine evF (by omega) (evB (toStrs l hl.1) (evB h1 (evB (toStrs l hl.1) (evB h2 (evT rfl ?_)))))
    refine evSucc (fun k => by rw [laws_FnExactSquaresReached.j0]) ?_
    exact evF (by simp) (evB (toStrs l hl.1) (evB (eqStrs l hl.1) (evT rfl (evS _))))
end Go.Proofs.YtjblefcdihmdbaaDoor.Pure
