/-
  The pure statement of the law FnExactJoinerOf: program and reference tell the same player, and the board stays as it was, whatever the board.
-/
import Derived.Test.YtnecgdlhkbbpgaaQ23
import Derived.Test.YtnecgdlhkbbpgaaHexJoin
namespace Go.Proofs.Ytnecgdlhkbbpgaa.Pure
open Go.RowKit Go.Proofs.Ytnecgdlhkbbpgaa.Q Go.Proofs.YtnecgdlhkbbpgaaW.PrintWords Go.Proofs.YtnecgdlhkbbpgaaW.PrintLast Go.Proofs.Ytnecgdlhkbbpgaa.B

theorem joinerOf_both (a : Int) (l : List Int) (hl : l.length ≤ 4000000000000000000) : ∃ r, Ev (fun k => spec_JoinerOf.f k a l) r ∧ Ev (fun k => impl_JoinerOf.f k a l) r := by
  unfold spec_JoinerOf.f impl_JoinerOf.f
  cases h : isHexB a l with
  | false => exact ⟨(0, 1), evB (l06Is_spec a l hl) (evF (by simp [h]) (evS _)), evG (isHex_impl a l) (evF (by simp [h]) (evS _))⟩
  | true =>
    obtain ⟨r, r1, r2⟩ := joiner_both a l h
    exact ⟨(r, 0), evB (l06Is_spec a l hl) (evT (by simp [h]) (evB r1 (evS _))), evG (isHex_impl a l) (evT (by simp [h]) (evB r2 (evS _)))⟩
theorem FnExactJoinerOf (a0 : Int) (l1 : List Int) (_ : (Lit.int .i64 a0).wf = true) (hm : l1.length ≤ maxLen) (_ : ∀ x ∈ l1, (Lit.int .i64 x).wf = true) : Ev (fun k => laws_FnExactJoinerOf.f k a0 l1) true := by
  unfold laws_FnExactJoinerOf.f
  unfold maxLen at hm
  by_cases hl : 1048576 < l1.length
  · exact evG (szHex_large a0 l1 hl (by omega)) (evT (by omega) (evS _))
  have hl' : l1.length ≤ 1048576 := by omega
  obtain ⟨⟨r, c⟩, hs, hi⟩ := joinerOf_both a0 l1 (by omega)
  refine evG (szHex_small a0 l1 hl') (evF (by omega) ?_)
  refine evB (toHex a0 l1 hl') (evB hs (evB (toHex a0 l1 hl') (evB hi (evT rfl ?_))))
  refine evSucc (fun k => by rw [laws_FnExactJoinerOf.j0]) ?_
  refine evF (by simp) ?_
  exact evB (toHex a0 l1 hl') (evB (eqHex a0 l1 (by omega)) (evT (by rfl) (evS _)))
end Go.Proofs.Ytnecgdlhkbbpgaa.Pure
