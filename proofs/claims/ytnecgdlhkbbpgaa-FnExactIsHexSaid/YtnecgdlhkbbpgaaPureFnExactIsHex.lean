/-
  The pure statement of the law FnExactIsHex: program and reference tell alike whether there is a board, and the argument stays as it was, whatever it is.
-/
import Derived.Test.YtnecgdlhkbbpgaaQ10
import Derived.Test.YtnecgdlhkbbpgaaIsHexSame
namespace Go.Proofs.Ytnecgdlhkbbpgaa.Pure
open Go.RowKit Go.Proofs.Ytnecgdlhkbbpgaa.Q Go.Proofs.YtnecgdlhkbbpgaaW.PrintWords Go.Proofs.YtnecgdlhkbbpgaaW.PrintLast Go.Proofs.Ytnecgdlhkbbpgaa.B

theorem FnExactIsHex (a : Int) (l : List Int) (_ : (Lit.int .i64 a).wf = true) (_ : l.length ≤ maxLen) (_ : ∀ x ∈ l, (Lit.int .i64 x).wf = true) : Ev (fun k => laws_FnExactIsHex.f k a l) true := by
  unfold laws_FnExactIsHex.f
  by_cases hl : l.length ≤ 1048576
  · refine evG (szHex_small a l hl) (evF (by omega) ?_)
    refine evB (toHex a l hl) (evB (isHex_spec a l (by omega)) (evB (toHex a l hl) (evG (isHex_impl a l) (evF (by simp) ?_))))
    exact evB (toHex a l hl) (evB (eqHex a l (by omega)) (evT (by rfl) (evS _)))
  · exact evG (szHex_large a l (by omega) (by unfold maxLen at *; omega)) (evT (by omega) (evS _))
end Go.Proofs.Ytnecgdlhkbbpgaa.Pure
