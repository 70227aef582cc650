/-
  The pure statement of the law FnExactBestPoints: program and reference tell the same best points and code, and the marks hold, whatever the arguments are.
-/
import Derived.Test.YtimoadhkkbedhaaQ30
import Derived.Test.YtimoadhkkbedhaaFieldBest
namespace Go.Proofs.Ytimoadhkkbedhaa.Pure
open Go.RowKit Go.Proofs.Ytimoadhkkbedhaa.Q Go.Proofs.YtimoadhkkbedhaaW.PrintWords Go.Proofs.YtimoadhkkbedhaaW.PrintLast Go.Proofs.YtimoadhkkbedhaaW.PrintMore Go.Proofs.Ytimoadhkkbedhaa.B

theorem both (P L R B g p : Int) (hL : (Lit.int .i64 L).wf = true) : ∃ (l : List Int) (c : Int), l.length ≤ 8 ∧ Ev (fun k => spec_BestPoints.f k P L R B g p) (l, c) ∧ Ev (fun k => impl_BestPoints.f k P L R B g p) (l, c) := by
  unfold spec_BestPoints.f impl_BestPoints.f
  obtain ⟨b, hb⟩ := field_total P L R B
  have h1 := code_spec P L R B g p b hb
  have h2 := code_impl P L R B g p b hb
  by_cases c : codeF P L R B g p b = 0
  · obtain ⟨rfl, _, hp⟩ := codeF_zero P L R B g p b c
    have hP := field_facts P L R B hb
    rw [c] at h1 h2
    obtain ⟨m, n, rfl, rfl, h⟩ := field_two P L R B hb
    obtain ⟨T1, h3, h4⟩ := best_spec P L g hP m n p (by omega) h _ (TabW.new P L g)
    exact ⟨bestL P L g m n p, 0, bestL_len P L g m n p hP.2, evB h1 (evT rfl (evB (table_spec P L m n hP) (evB h3 (evS _)))), evB h2 (evT rfl (evB (best_impl P L g hP hL m n p (by omega) h) (evS _)))⟩
  · exact ⟨[], codeF P L R B g p b, by simp, evB h1 (evF c (evS _)), evB h2 (evF c (evS _))⟩

theorem FnExactBestPoints (P L R B g p : Int) (_ : (Lit.int .i64 P).wf = true) (hL : (Lit.int .i64 L).wf = true) (_ : (Lit.int .i64 R).wf = true) (_ : (Lit.int .i64 B).wf = true) (_ : (Lit.int .i64 g).wf = true) (_ : (Lit.int .i64 p).wf = true) : Ev (fun k => laws_FnExactBestPoints.f k P L R B g p) true := by
  unfold laws_FnExactBestPoints.f
  obtain ⟨l, c, hl, hs, hi⟩ := both P L R B g p hL
  refine evG (by unfold laws_toField.f; rfl) (evB hs (evG (by unfold laws_toField.f; rfl) (evB hi (evB (eqInts l (by omega)) (evT (by rfl) ?_)))))
  refine evSucc (fun k => by rw [laws_FnExactBestPoints.j0]) ?_
  refine evF (by simp) (evB (markInts l 1 (by omega) (by omega)) (evB (heldInts l.length 1 (by omega) (by omega)) (evF (by omega) (evT (by rfl) ?_))))
  refine evG (by unfold laws_toField.f; rfl) (evB hi (evB (eqInts l (by omega)) (evT (by rfl) ?_)))
  refine evSucc (fun k => by rw [laws_FnExactBestPoints.j1]) ?_
  exact evF (by simp) (evB (heldInts l.length 1 (by omega) (by omega)) (evF (by omega) (evT (by rfl) (evS _))))
end Go.Proofs.Ytimoadhkkbedhaa.Pure
