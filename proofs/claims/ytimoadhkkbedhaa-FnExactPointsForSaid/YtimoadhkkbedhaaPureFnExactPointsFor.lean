/-
  The pure statement of the law FnExactPointsFor: program and reference tell the same points and code, and the marks hold, whatever the arguments are.
-/
import Derived.Test.YtimoadhkkbedhaaQ25
import Derived.Test.YtimoadhkkbedhaaPointsSame
namespace Go.Proofs.Ytimoadhkkbedhaa.Pure
open Go.RowKit Go.Proofs.Ytimoadhkkbedhaa.Q Go.Proofs.YtimoadhkkbedhaaW.PrintWords Go.Proofs.YtimoadhkkbedhaaW.PrintLast Go.Proofs.YtimoadhkkbedhaaW.PrintMore Go.Proofs.Ytimoadhkkbedhaa.B

theorem both (P L R B g p : Int) : ∃ (l : List Int) (c : Int), l.length ≤ 8 ∧ Ev (fun k => spec_PointsFor.f k P L R B g p) (l, c) ∧ Ev (fun k => impl_PointsFor.f k P L R B g p) (l, c) := by
  unfold spec_PointsFor.f impl_PointsFor.f
  obtain ⟨b, hb⟩ := field_total P L R B
  have h1 := code_spec P L R B g p b hb
  have h2 := code_impl P L R B g p b hb
  by_cases c : codeF P L R B g p b = 0
  · obtain ⟨rfl, _, _⟩ := codeF_zero P L R B g p b c
    have hP := field_facts P L R B hb
    have hs := field_sets P L R B hb
    exact ⟨ptsL P L R B g p, 0, ptsL_len P L R B g p hP.2, evB h1 (evT c (evB (points_spec P L R B g p hP (by omega) (by omega)) (evS _))), evB h2 (evT c (evB (points_impl P L R B g p hP) (evS _)))⟩
  · exact ⟨[], codeF P L R B g p b, by simp, evB h1 (evF c (evS _)), evB h2 (evF c (evS _))⟩

theorem FnExactPointsFor (P L R B g p : Int) (_ : (Lit.int .i64 P).wf = true) (_ : (Lit.int .i64 L).wf = true) (_ : (Lit.int .i64 R).wf = true) (_ : (Lit.int .i64 B).wf = true) (_ : (Lit.int .i64 g).wf = true) (_ : (Lit.int .i64 p).wf = true) : Ev (fun k => laws_FnExactPointsFor.f k P L R B g p) true := by
  unfold laws_FnExactPointsFor.f
  obtain ⟨l, c, hl, hs, hi⟩ := both P L R B g p
  refine evG (by unfold laws_toField.f; rfl) (evB hs (evG (by unfold laws_toField.f; rfl) (evB hi (evB (eqInts l (by omega)) (evT (by rfl) ?_)))))
  refine evSucc (fun k => by rw [laws_FnExactPointsFor.j0]) ?_
  refine evF (by simp) (evB (markInts l 1 (by omega) (by omega)) (evB (heldInts l.length 1 (by omega) (by omega)) (evF (by omega) (evT (by rfl) ?_))))
  refine evG (by unfold laws_toField.f; rfl) (evB hi (evB (eqInts l (by omega)) (evT (by rfl) ?_)))
  refine evSucc (fun k => by rw [laws_FnExactPointsFor.j1]) ?_
  exact evF (by simp) (evB (heldInts l.length 1 (by omega) (by omega)) (evF (by omega) (evT (by rfl) (evS _))))
end Go.Proofs.Ytimoadhkkbedhaa.Pure
