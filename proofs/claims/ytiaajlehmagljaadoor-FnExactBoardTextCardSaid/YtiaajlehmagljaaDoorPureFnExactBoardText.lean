/-
  The pure statement of the law FnExactBoardText: program and reference write the same text and code, and the board stays as it was, whatever the board.
-/
import Derived.Test.YtiaajlehmagljaaDoorQ8
import Derived.Test.YtiaajlehmagljaaDoorBoardWords
import Derived.Test.YtiaajlehmagljaaDoorBoardEv
namespace Go.Proofs.YtiaajlehmagljaaDoor.Pure
open Go.RowKit Go.Proofs.YtiaajlehmagljaaDoor.Q Go.Proofs.YtiaajlehmagljaaDoorW.PrintWords Go.Proofs.YtiaajlehmagljaaDoorW.PrintLast Go.Proofs.YtiaajlehmagljaaDoorW.PrintMore Go.Proofs.YtiaajlehmagljaaDoor.B

theorem FnExactBoardText (n : Int) (L : List Int) (_ : (Lit.int .i64 n).wf = true) (hm : L.length ≤ maxLen) (_ : ∀ x ∈ L, (Lit.int .i64 x).wf = true) : Ev (fun k => laws_FnExactBoardText.f k n L) true := by
  unfold laws_FnExactBoardText.f
  by_cases h : L.length ≤ 1048576
  · obtain ⟨t, c, hs, hi⟩ := both_board n L h
    rw [szB_ok n L h]
    refine evG rfl (evF (by omega) (evB (toB n L h) (evB hs (evB (toB n L h) (evB hi (evT rfl ?_))))))
    refine evSucc (fun k => by rw [laws_FnExactBoardText.j0]) ?_
    exact evF (by simp) (evB (toB n L h) (evB (eqB n L h) (evT rfl (evS _))))
  · rw [szB_big n L hm (by omega)]
    exact evG rfl (evT (by omega) (evS _))
end Go.Proofs.YtiaajlehmagljaaDoor.Pure
