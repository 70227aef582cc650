/-
  The pure statement of the law FnExactFreeEdges: program and reference tell the same free edges, and the marks hold, whatever the argument is.
-/
import Derived.Test.YtlnngnccengdjaaQ24
import Derived.Test.YtlnngnccengdjaaBoxSame
namespace Go.Proofs.Ytlnngnccengdjaa.Pure
open Go.RowKit Go.Proofs.Ytlnngnccengdjaa.Q Go.Proofs.YtlnngnccengdjaaW.PrintWords Go.Proofs.YtlnngnccengdjaaW.PrintLast Go.Proofs.Ytlnngnccengdjaa.B

theorem free_both (W H E : Int) : ∃ (l : List Int) (c : Int), l.length ≤ 24 ∧ Ev (fun k => spec_FreeEdges.f k W H E) (l, c) ∧ impl_FreeEdges.f W H E = some (l, c) := by
  unfold spec_FreeEdges.f impl_FreeEdges.f
  rw [isBox_impl, isBox_spec]
  simp only [Option.bind_some]
  cases h : isBoxB W H E with
  | true => exact ⟨freeL W H E, 0, freeL_len W H E h, evT (by rfl) (evB (free_spec W H E h) (evS _)), by rw [if_pos rfl, free_impl W H E h]; rfl⟩
  | false => exact ⟨[], 1, by simp, evF (by simp) (evS _), by simp⟩

theorem FnExactFreeEdges (W H E : Int) (_ : (Lit.int .i64 W).wf = true) (_ : (Lit.int .i64 H).wf = true) (_ : (Lit.int .i64 E).wf = true) : Ev (fun k => laws_FnExactFreeEdges.f k W H E) true := by
  unfold laws_FnExactFreeEdges.f
  obtain ⟨l, c, hl, hs, hi⟩ := free_both W H E
  refine evG (by unfold laws_toBoxes.f; rfl) (evB hs (evG (by unfold laws_toBoxes.f; rfl) (evG hi (evB (eqInts l (by omega)) (evT (by rfl) ?_)))))
  refine evSucc (fun k => by rw [laws_FnExactFreeEdges.j0]) ?_
  refine evF (by simp) (evB (markInts l 1 (by omega) (by omega)) (evB (heldInts l.length 1 (by omega) (by omega)) (evF (by omega) (evT (by rfl) ?_))))
  refine evG (by unfold laws_toBoxes.f; rfl) (evG hi (evB (eqInts l (by omega)) (evT (by rfl) ?_)))
  refine evSucc (fun k => by rw [laws_FnExactFreeEdges.j1]) ?_
  exact evF (by simp) (evB (heldInts l.length 1 (by omega) (by omega)) (evF (by omega) (evT (by rfl) (evS _))))
end Go.Proofs.Ytlnngnccengdjaa.Pure
