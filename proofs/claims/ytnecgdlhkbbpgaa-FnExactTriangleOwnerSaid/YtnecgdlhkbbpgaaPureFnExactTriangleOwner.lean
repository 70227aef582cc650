/-
  The pure statement of the law FnExactTriangleOwner: program and reference tell the same owner, and the cells stay as they were, whatever the side and the cells.
-/
import Derived.Test.YtnecgdlhkbbpgaaQ10
import Derived.Test.YtnecgdlhkbbpgaaReduced
namespace Go.Proofs.Ytnecgdlhkbbpgaa.Pure
open Go.RowKit Go.Proofs.Ytnecgdlhkbbpgaa.Q Go.Proofs.YtnecgdlhkbbpgaaW.PrintWords Go.Proofs.YtnecgdlhkbbpgaaW.PrintLast Go.Proofs.Ytnecgdlhkbbpgaa.B

theorem owner_loop (m : Nat) : ∀ (n : Int) (l : List Int), n = m + 1 → n ≤ 8 → (l.length : Int) = tri n → okCells l →
    ∃ x, Ev (fun k => spec_TriangleOwner.l0 k n l) (x, 0) ∧ Ev (fun k => impl_TriangleOwner.l0 k n l) (x, 0) := by
  induction m with
  | zero =>
    intro n l hn h8 hl h12
    have h1 : tri n = 1 := by rw [show n = 1 by omega]; decide
    refine ⟨rd l 0, ?_, ?_⟩
    · refine evSucc (fun k => by rw [spec_TriangleOwner.l0]) ?_
      exact evF (by omega) (evT (by omega) (evS _))
    · refine evSucc (fun k => by rw [impl_TriangleOwner.l0]) ?_
      exact evF (by omega) (evT (by omega) (evS _))
  | succ m ih =>
    intro n l hn h8 hl h12
    obtain ⟨R, a1, a2, a3, a4⟩ := reduced_both n (by omega) h8 l hl h12
    obtain ⟨x, b1, b2⟩ := ih (n - 1) R (by omega) (by omega) a3 a4
    have w6 : wrap64 (n - 1) = n - 1 := wrap_in (by omega) (by omega)
    refine ⟨x, ?_, ?_⟩
    · refine evSucc (fun k => by rw [spec_TriangleOwner.l0]) ?_
      refine evT (by omega) (evB a2 ?_)
      rw [w6]
      exact b1
    · refine evSucc (fun k => by rw [impl_TriangleOwner.l0]) ?_
      refine evT (by omega) (evB a1 ?_)
      rw [w6]
      exact b2
theorem owner_both (n : Int) (l : List Int) (hl : l.length ≤ 1048576) : ∃ r, Ev (fun k => spec_TriangleOwner.f k n l) r ∧ Ev (fun k => impl_TriangleOwner.f k n l) r := by
  unfold spec_TriangleOwner.f impl_TriangleOwner.f
  by_cases h : triCode n 1 l = 0
  · obtain ⟨h1, h2, h3, h4⟩ := triCode_zero (by omega) h
    obtain ⟨x, b1, b2⟩ := owner_loop (n - 1).toNat n l (by omega) h2 h3 h4
    exact ⟨(x, 0), evB (triCode_spec n 1 l (by omega)) (evT h b1), evB (triCode_impl n 1 l) (evT h b2)⟩
  · exact ⟨(0, triCode n 1 l), evB (triCode_spec n 1 l (by omega)) (evF h (evS _)), evB (triCode_impl n 1 l) (evF h (evS _))⟩

theorem FnExactTriangleOwner (a0 : Int) (l1 : List Int) (_ : (Lit.int .i64 a0).wf = true) (_ : l1.length ≤ maxLen) (_ : ∀ x ∈ l1, (Lit.int .i64 x).wf = true) : Ev (fun k => laws_FnExactTriangleOwner.f k a0 l1) true := by
  unfold laws_FnExactTriangleOwner.f
  by_cases hl : (l1.length : Int) > 1048576
  · exact evT hl (evS _)
  have hl' : l1.length ≤ 1048576 := by omega
  obtain ⟨r, hs, hi⟩ := owner_both a0 l1 hl'
  refine evF hl (evB (toInts l1 hl') (evB hs (evB (toInts l1 hl') (evB hi (evT (by rfl) ?_)))))
  refine evSucc (fun k => by rw [laws_FnExactTriangleOwner.j0]) ?_
  refine evF (by simp) ?_
  exact evB (toInts l1 hl') (evB (eqInts l1 (by omega)) (evT (by rfl) (evS _)))
end Go.Proofs.Ytnecgdlhkbbpgaa.Pure
