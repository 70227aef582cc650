/-
  The pure statement of the law FnExactReduceTriangle: program and reference reduce a triangle alike, the cells stay as they were, and the marks hold, whatever the side and the cells.
-/
import Derived.Test.YtnecgdlhkbbpgaaQ11
import Derived.Test.YtnecgdlhkbbpgaaReduced
namespace Go.Proofs.Ytnecgdlhkbbpgaa.Pure
open Go.RowKit Go.Proofs.Ytnecgdlhkbbpgaa.Q Go.Proofs.YtnecgdlhkbbpgaaW.PrintWords Go.Proofs.YtnecgdlhkbbpgaaW.PrintLast Go.Proofs.Ytnecgdlhkbbpgaa.B

theorem reduce_both (n : Int) (l : List Int) (hl : l.length ≤ 1048576) : ∃ (R : List Int) (c : Int), R.length ≤ 36 ∧ Ev (fun k => spec_ReduceTriangle.f k n l) (R, c) ∧ Ev (fun k => impl_ReduceTriangle.f k n l) (R, c) := by
  unfold spec_ReduceTriangle.f impl_ReduceTriangle.f
  by_cases h : triCode n 2 l = 0
  · obtain ⟨h1, h2, h3, h4⟩ := triCode_zero (by omega) h
    obtain ⟨R, a1, a2, a3, a4⟩ := reduced_both n h1 h2 l h3 h4
    have := (tri_facts (n - 1) (by omega) (by omega)).2.2.2.2
    exact ⟨R, 0, by omega, evB (triCode_spec n 2 l (by omega)) (evT h (evB a2 (evS _))), evB (triCode_impl n 2 l) (evT h (evB a1 (evS _)))⟩
  · exact ⟨[], triCode n 2 l, by simp, evB (triCode_spec n 2 l (by omega)) (evF h (evS _)), evB (triCode_impl n 2 l) (evF h (evS _))⟩

theorem FnExactReduceTriangle (a0 : Int) (l1 : List Int) (_ : (Lit.int .i64 a0).wf = true) (_ : l1.length ≤ maxLen) (_ : ∀ x ∈ l1, (Lit.int .i64 x).wf = true) : Ev (fun k => laws_FnExactReduceTriangle.f k a0 l1) true := by
  unfold laws_FnExactReduceTriangle.f
  by_cases hl : (l1.length : Int) > 1048576
  · exact evT hl (evS _)
  have hl' : l1.length ≤ 1048576 := by omega
  obtain ⟨R, c, hR, hs, hi⟩ := reduce_both a0 l1 hl'
  refine evF hl (evB (toInts l1 hl') (evB hs (evB (toInts l1 hl') (evB hi (evB (eqInts R (by omega)) (evT (by rfl) ?_))))))
  refine evSucc (fun k => by rw [laws_FnExactReduceTriangle.j0]) ?_
  refine evF (by simp) (evB (toInts l1 hl') (evB (eqInts l1 (by omega)) (evT (by rfl) ?_)))
  refine evB (markInts l1 1 (by omega) (by omega)) (evF (by omega) (evB (eqInts R (by omega)) (evT (by rfl) ?_)))
  refine evSucc (fun k => by rw [laws_FnExactReduceTriangle.j1]) ?_
  refine evF (by simp) (evB (markInts R 1 (by omega) (by omega)) (evB (heldInts R.length 1 (by omega) (by omega)) (evF (by omega) (evT (by rfl) ?_))))
  refine evB (toInts l1 hl') (evB hi (evB (eqInts R (by omega)) (evT (by rfl) ?_)))
  refine evSucc (fun k => by rw [laws_FnExactReduceTriangle.j2]) ?_
  refine evF (by simp) ?_
  exact evB (heldInts R.length 1 (by omega) (by omega)) (evF (by omega) (evT (by rfl) (evS _)))
end Go.Proofs.Ytnecgdlhkbbpgaa.Pure
