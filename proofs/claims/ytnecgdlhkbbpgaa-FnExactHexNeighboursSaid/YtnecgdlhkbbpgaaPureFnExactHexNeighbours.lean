/-
  The pure statement of the law FnExactHexNeighbours: program and reference give the same neighbours and the marks hold, whatever the two numbers.
-/
import Derived.Test.YtnecgdlhkbbpgaaQ2
import Derived.Test.YtnecgdlhkbbpgaaNearSame
namespace Go.Proofs.Ytnecgdlhkbbpgaa.Pure
open Go.RowKit Go.Proofs.Ytnecgdlhkbbpgaa.Q Go.Proofs.YtnecgdlhkbbpgaaW.PrintWords Go.Proofs.YtnecgdlhkbbpgaaW.PrintLast Go.Proofs.Ytnecgdlhkbbpgaa.B

/-- What both functions come to. -/
theorem both (a0 a1 : Int) : ∃ (l : List Int) (c : Int), l.length ≤ 6 ∧ Ev (fun k => spec_HexNeighbours.f k a0 a1) (l, c) ∧ Ev (fun k => impl_HexNeighbours.f k a0 a1) (l, c) := by
  unfold spec_HexNeighbours.f impl_HexNeighbours.f
  simp only [l01In_eq, within_eq, Option.bind_some, decide_eq_true_eq]
  by_cases h1 : 1 ≤ a0 ∧ a0 ≤ 8
  · have hsq : 1 ≤ a0 * a0 ∧ a0 * a0 ≤ 64 := by
      obtain ⟨h1, h2⟩ := h1
      have : a0 = 1 ∨ a0 = 2 ∨ a0 = 3 ∨ a0 = 4 ∨ a0 = 5 ∨ a0 = 6 ∨ a0 = 7 ∨ a0 = 8 := by omega
      rcases this with rfl | rfl | rfl | rfl | rfl | rfl | rfl | rfl <;> decide
    rw [wrap_in (x := a0 * a0) (by omega) (by omega), wrap_in (by omega) (by omega)]
    by_cases h2 : 0 ≤ a1 ∧ a1 ≤ a0 * a0 - 1
    · exact ⟨nearL a0 a1, 0, (near_facts a0 a1 h1.1 h1.2 h2.1 (by omega)).2.2.1,
        evT h1 (evT h2 (evB (near_spec a0 a1 h1.1 h1.2 h2.1 (by omega)) (evS _))), evT h1 (evT h2 (evB (near_impl a0 a1 h1.1 h1.2 h2.1 (by omega)) (evS _)))⟩
    · exact ⟨[], 2, by simp, evT h1 (evF h2 (evS _)), evT h1 (evF h2 (evS _))⟩
  · exact ⟨[], 2, by simp, evF h1 (evS _), evF h1 (evS _)⟩

theorem FnExactHexNeighbours : laws_FnExactHexNeighbours.Pure := by
  intro a0 a1 _ _
  obtain ⟨l, c, hl, hs, hi⟩ := both a0 a1
  refine Ev.rounds (g := fun k => laws_FnExactHexNeighbours.f k a0 a1) ?_
  unfold laws_FnExactHexNeighbours.f
  refine evB hs (evB hi (evB (eqInts l (by omega)) (evT rfl ?_)))
  refine evSucc (fun k => by rw [laws_FnExactHexNeighbours.j0]) ?_
  refine evF (by simp) (evB (markInts l 1 (by omega) (by omega)) (evB (heldInts l.length 1 (by omega) (by omega)) (evF (by omega) (evT rfl ?_))))
  refine evB hi (evB (eqInts l (by omega)) (evT rfl ?_))
  refine evSucc (fun k => by rw [laws_FnExactHexNeighbours.j1]) ?_
  exact evF (by simp) (evB (heldInts l.length 1 (by omega) (by omega)) (evF (by omega) (evT rfl (evS _))))
end Go.Proofs.Ytnecgdlhkbbpgaa.Pure
