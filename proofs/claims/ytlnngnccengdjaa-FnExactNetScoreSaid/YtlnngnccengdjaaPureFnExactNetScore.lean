/-
  The pure statement of the law FnExactNetScore: program and reference tell the same net score and code, whatever the argument is.
-/
import Derived.Test.YtlnngnccengdjaaQ28
import Derived.Test.YtlnngnccengdjaaBoxTable
namespace Go.Proofs.Ytlnngnccengdjaa.Pure
open Go.RowKit Go.Proofs.Ytlnngnccengdjaa.Q Go.Proofs.YtlnngnccengdjaaW.PrintWords Go.Proofs.YtlnngnccengdjaaW.PrintLast Go.Proofs.Ytlnngnccengdjaa.B

theorem net_both (W H E : Int) : ∃ (r c : Int), Ev (fun k => spec_NetScore.f k W H E) (r, c) ∧ Ev (fun k => impl_NetScore.f k W H E) (r, c) := by
  unfold spec_NetScore.f impl_NetScore.f
  have h1 := given_spec W H E
  have h2 := code_impl W H E
  by_cases c : codeN W H E = 0
  · obtain ⟨hb, hF⟩ := codeN_zero W H E c
    rw [c] at h1 h2
    obtain ⟨_, _, h0, _⟩ := (isBoxB_iff W H E).1 hb
    obtain ⟨a, rfl⟩ := Int.eq_ofNat_of_zero_le h0
    obtain ⟨T', h3, _⟩ := score_spec W H a hF 14 a _ ⟨hb, hb, fun _ _ => rfl⟩ (by omega) (TabS.new W H a)
    exact ⟨sc W H a, 0, evB h1 (evT rfl (evB (free_spec W H a hb) (evB (table_spec _ hF) (evB h3 (evS _))))), evB h2 (evT rfl (evB (score_impl W H 14 a hb (by omega)) (evS _)))⟩
  · exact ⟨0, codeN W H E, evB h1 (evF c (evS _)), evB h2 (evF c (evS _))⟩
theorem FnExactNetScore (W H E : Int) (_ : (Lit.int .i64 W).wf = true) (_ : (Lit.int .i64 H).wf = true) (_ : (Lit.int .i64 E).wf = true) : Ev (fun k => laws_FnExactNetScore.f k W H E) true := by
  unfold laws_FnExactNetScore.f
  obtain ⟨r, c, hs, hi⟩ := net_both W H E
  exact evG (by unfold laws_toBoxes.f; rfl) (evB hs (evG (by unfold laws_toBoxes.f; rfl) (evB hi (evT rfl (evT rfl (evS _))))))
end Go.Proofs.Ytlnngnccengdjaa.Pure
