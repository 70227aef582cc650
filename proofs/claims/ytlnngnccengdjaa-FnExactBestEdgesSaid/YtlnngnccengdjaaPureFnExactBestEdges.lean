/-
  The pure statement of the law FnExactBestEdges: program and reference tell the same edges, and the marks hold, whatever the argument is.
-/
import Derived.Test.YtlnngnccengdjaaQ29
import Derived.Test.YtlnngnccengdjaaBoxTable
namespace Go.Proofs.Ytlnngnccengdjaa.Pure
open Go.RowKit Go.Proofs.Ytlnngnccengdjaa.Q Go.Proofs.YtlnngnccengdjaaW.PrintWords Go.Proofs.YtlnngnccengdjaaW.PrintLast Go.Proofs.Ytlnngnccengdjaa.B

theorem best_both (W H E : Int) : ∃ (l : List Int) (c : Int), l.length ≤ 24 ∧ Ev (fun k => spec_BestEdges.f k W H E) (l, c) ∧ Ev (fun k => impl_BestEdges.f k W H E) (l, c) := by
  unfold spec_BestEdges.f impl_BestEdges.f
  have h1 := given_spec W H E
  have h2 := code_impl W H E
  by_cases c : codeN W H E = 0
  · obtain ⟨hb, hF⟩ := codeN_zero W H E c
    rw [c] at h1 h2
    obtain ⟨_, _, h0, _⟩ := (isBoxB_iff W H E).1 hb
    obtain ⟨a, rfl⟩ := Int.eq_ofNat_of_zero_le h0
    obtain ⟨T', h3, _⟩ := best_spec W H a hF a ⟨hb, hb, fun _ _ => rfl⟩ _ (TabS.new W H a)
    exact ⟨bestL W H a, 0, by unfold bestL; exact Nat.le_trans (List.length_filter_le _ _) (by omega), evB h1 (evT rfl (evB (free_spec W H a hb) (evB (table_spec _ hF) (evB h3 (evS _))))), evB h2 (evT rfl (evB (best_impl W H a hb hF) (evS _)))⟩
  · exact ⟨[], codeN W H E, by simp, evB h1 (evF c (evS _)), evB h2 (evF c (evS _))⟩
theorem FnExactBestEdges (W H E : Int) (_ : (Lit.int .i64 W).wf = true) (_ : (Lit.int .i64 H).wf = true) (_ : (Lit.int .i64 E).wf = true) : Ev (fun k => laws_FnExactBestEdges.f k W H E) true := by
  unfold laws_FnExactBestEdges.f
  obtain ⟨l, c, hl, hs, hi⟩ := best_both W H E
  refine evG (by unfold laws_toBoxes.f; rfl) (evB hs (evG (by unfold laws_toBoxes.f; rfl) (evB hi (evB (eqInts l (by omega)) (evT (by rfl) ?_)))))
  refine evSucc (fun k => by rw [laws_FnExactBestEdges.j0]) ?_
  refine evF (by simp) (evB (markInts l 1 (by omega) (by omega)) (evB (heldInts l.length 1 (by omega) (by omega)) (evF (by omega) (evT (by rfl) ?_))))
  refine evG (by unfold laws_toBoxes.f; rfl) (evB hi (evB (eqInts l (by omega)) (evT (by rfl) ?_)))
  refine evSucc (fun k => by rw [laws_FnExactBestEdges.j1]) ?_
  exact evF (by simp) (evB (heldInts l.length 1 (by omega) (by omega)) (evF (by omega) (evT (by rfl) (evS _))))
end Go.Proofs.Ytlnngnccengdjaa.Pure
