/-
  The pure statement of the law FnExactIsBoard: program and reference answer alike, and the board stays as it was, whatever the board.
-/
import Derived.Test.YtjeiifiacjhfoaaQ19
import Derived.Test.YtjeiifiacjhfoaaBoardSame
import Derived.Test.YtjeiifiacjhfoaaBoardEv
namespace Go.Proofs.Ytjeiifiacjhfoaa.Pure
open Go.RowKit Go.Proofs.Ytjeiifiacjhfoaa.Q Go.Proofs.YtjeiifiacjhfoaaW.PrintWords Go.Proofs.YtjeiifiacjhfoaaW.PrintLast Go.Proofs.YtjeiifiacjhfoaaW.PrintMore Go.Proofs.Ytjeiifiacjhfoaa.B

theorem FnExactIsBoard (n : Int) (L : List Int) (_ : (Lit.int .i64 n).wf = true) (hm : L.length ≤ maxLen) (_ : ∀ x ∈ L, (Lit.int .i64 x).wf = true) : Ev (fun k => laws_FnExactIsBoard.f k n L) true := by
  unfold laws_FnExactIsBoard.f
  by_cases h : L.length ≤ 1048576
  · rw [szB_ok n L h]
    refine evG rfl (evF (by omega) (evB (toB n L h) (evB (a := boardB n L) (by unfold spec_IsBoard.f; exact evB (board_spec n L (by omega)) (evS _)) (evB (toB n L h) (evB (board_impl n L (by omega)) (evF (by simp) ?_))))))
    exact evB (toB n L h) (evB (eqB n L h) (evT rfl (evS _)))
  · rw [szB_big n L hm (by omega)]
    exact evG rfl (evT (by omega) (evS _))
end Go.Proofs.Ytjeiifiacjhfoaa.Pure
