/-
  The pure statement of the law FnExactOutcomeOf: program and reference tell the same outcomes and code, whatever the arguments are.
-/
import Derived.Test.YtimoadhkkbedhaaQ29
import Derived.Test.YtimoadhkkbedhaaFieldBest
namespace Go.Proofs.Ytimoadhkkbedhaa.Pure
open Go.RowKit Go.Proofs.Ytimoadhkkbedhaa.Q Go.Proofs.YtimoadhkkbedhaaW.PrintWords Go.Proofs.YtimoadhkkbedhaaW.PrintLast Go.Proofs.YtimoadhkkbedhaaW.PrintMore Go.Proofs.Ytimoadhkkbedhaa.B

theorem bothO (P L R B g : Int) (hL : (Lit.int .i64 L).wf = true) : ∃ (x y : Bool) (c : Int), Ev (fun k => spec_OutcomeOf.f k P L R B g) (x, y, c) ∧ Ev (fun k => impl_OutcomeOf.f k P L R B g) (x, y, c) := by
  unfold spec_OutcomeOf.f impl_OutcomeOf.f
  obtain ⟨b, hb⟩ := field_total P L R B
  have h1 := code_spec0 P L R B g b hb
  have h2 := code_impl P L R B g 0 b hb
  by_cases c : codeF P L R B g 0 b = 0
  · obtain ⟨rfl, _, _⟩ := codeF_zero P L R B g 0 b c
    have hP := field_facts P L R B hb
    rw [c] at h1 h2
    obtain ⟨m, n, rfl, rfl, h⟩ := field_two P L R B hb
    obtain ⟨T1, h3, h4⟩ := wins_spec P L g hP 12 m n 0 _ (.inl rfl) h (fr_small _ _ P hP) (TabW.new P L g)
    obtain ⟨T2, h5, h6⟩ := wins_spec P L g hP 12 m n 1 T1 (.inr rfl) h (fr_small _ _ P hP) h4
    refine ⟨W P L g m n 0, W P L g m n 1, 0, evB h1 (evT rfl (evB (table_spec P L m n hP) (evB h3 (evB h5 (evS _))))), evB h2 (evT rfl ?_)⟩
    exact evB (wins_impl P L g hP hL 12 m n 0 (.inl rfl) h (fr_small _ _ P hP)) (evB (wins_impl P L g hP hL 12 m n 1 (.inr rfl) h (fr_small _ _ P hP)) (evS _))
  · exact ⟨false, false, codeF P L R B g 0 b, evB h1 (evF c (evS _)), evB h2 (evF c (evS _))⟩
theorem FnExactOutcomeOf (P L R B g : Int) (_ : (Lit.int .i64 P).wf = true) (hL : (Lit.int .i64 L).wf = true) (_ : (Lit.int .i64 R).wf = true) (_ : (Lit.int .i64 B).wf = true) (_ : (Lit.int .i64 g).wf = true) : Ev (fun k => laws_FnExactOutcomeOf.f k P L R B g) true := by
  unfold laws_FnExactOutcomeOf.f
  obtain ⟨x, y, c, hs, hi⟩ := bothO P L R B g hL
  exact evG (by unfold laws_toField.f; rfl) (evB hs (evG (by unfold laws_toField.f; rfl) (evB hi (evF (by simp) (evF (by simp) (evT rfl (evS _)))))))
end Go.Proofs.Ytimoadhkkbedhaa.Pure
