/-
  The pure statement of the law FnExactNeedOf: program and reference tell the same number, and the board stays as it was, whatever the board and the player.
-/
import Derived.Test.YtnecgdlhkbbpgaaQ24
import Derived.Test.YtnecgdlhkbbpgaaHexLaw
namespace Go.Proofs.Ytnecgdlhkbbpgaa.Pure
open Go.RowKit Go.Proofs.Ytnecgdlhkbbpgaa.Q Go.Proofs.YtnecgdlhkbbpgaaW.PrintWords Go.Proofs.YtnecgdlhkbbpgaaW.PrintLast Go.Proofs.Ytnecgdlhkbbpgaa.B

theorem FnExactNeedOf (a0 : Int) (l1 : List Int) (a1 : Int) (_ : (Lit.int .i64 a0).wf = true) (hm : l1.length ≤ maxLen) (_ : ∀ x ∈ l1, (Lit.int .i64 x).wf = true) (_ : (Lit.int .i64 a1).wf = true) : Ev (fun k => laws_FnExactNeedOf.f k a0 l1 a1) true := by
  unfold laws_FnExactNeedOf.f
  unfold maxLen at hm
  by_cases hl : 1048576 < l1.length
  · exact evG (szHex_large a0 l1 hl (by omega)) (evT (by omega) (evS _))
  have hl' : l1.length ≤ 1048576 := by omega
  obtain ⟨⟨r, c⟩, hs, hi⟩ := needOf_both a0 l1 a1 (by omega)
  refine evG (szHex_small a0 l1 hl') (evF (by omega) ?_)
  refine evB (toHex a0 l1 hl') (evB hs (evB (toHex a0 l1 hl') (evB hi (evT rfl ?_))))
  refine evSucc (fun k => by rw [laws_FnExactNeedOf.j0]) ?_
  refine evF (by simp) ?_
  exact evB (toHex a0 l1 hl') (evB (eqHex a0 l1 (by omega)) (evT (by rfl) (evS _)))
end Go.Proofs.Ytnecgdlhkbbpgaa.Pure
