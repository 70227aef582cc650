/-
  The pure statement of the law FnExactCanStop: program and reference answer alike, and the rows stay as they were, whatever the arguments.
-/
import Derived.Test.YtjblefcdihmdbaaDoorQ13
import Derived.Test.YtjblefcdihmdbaaDoorStopPure
namespace Go.Proofs.YtjblefcdihmdbaaDoor.Pure
open Go.RowKit Go.Proofs.YtjblefcdihmdbaaDoor.Q Go.Proofs.YtjblefcdihmdbaaDoorW.PrintWords Go.Proofs.YtjblefcdihmdbaaDoorW.PrintLast Go.Proofs.YtjblefcdihmdbaaDoorW.PrintMore Go.Proofs.YtjblefcdihmdbaaDoor.B

theorem FnExactCanStop (l : List ByteArray) (c0 c1 c2 c3 : Int) (hm : l.length ≤ maxLen) (hs : ∀ s ∈ l, s.size ≤ maxLen) (_ : (Lit.int .i64 c0).wf = true) (_ : (Lit.int .i64 c1).wf = true) (_ : (Lit.int .i64 c2).wf = true) (_ : (Lit.int .i64 c3).wf = true) :
    Ev (fun k => laws_FnExactCanStop.f k l c0 c1 c2 c3) true := by
  unfold laws_FnExactCanStop.f
  obtain ⟨z, hz, h⟩ := szStrs l hm hs
  refine evB hz ?_
  rcases h with h | ⟨h, hl⟩
  · exact evT h (evS _)
  · obtain ⟨r, e, h1, h2⟩ := both_stop l hl c0 c1 c2 c3
    refine evF (by omega) (evB (toStrs l hl.1) (evG rfl (evB h1 (evB (toStrs l hl.1) (evG rfl (evB h2 (evF (by simp) ?_)))))))
    refine evSucc (fun k => by rw [laws_FnExactCanStop.j0]) ?_
    exact evF (by simp) (evB (toStrs l hl.1) (evB (eqStrs l hl.1) (evT rfl (evS _))))
end Go.Proofs.YtjblefcdihmdbaaDoor.Pure
