/-
  The pure statement of the law FnExactFindKept: program and reference tell the same matching and code, and the marks hold, whatever the field is.
-/
import Derived.Test.YtimoadhkkbedhaaQ28
import Derived.Test.YtimoadhkkbedhaaFieldFind
namespace Go.Proofs.Ytimoadhkkbedhaa.Pure
open Go.RowKit Go.Proofs.Ytimoadhkkbedhaa.Q Go.Proofs.YtimoadhkkbedhaaW.PrintWords Go.Proofs.YtimoadhkkbedhaaW.PrintLast Go.Proofs.YtimoadhkkbedhaaW.PrintMore Go.Proofs.Ytimoadhkkbedhaa.B

theorem FnExactFindKept (P L R B : Int) (_ : (Lit.int .i64 P).wf = true) (_ : (Lit.int .i64 L).wf = true) (_ : (Lit.int .i64 R).wf = true) (_ : (Lit.int .i64 B).wf = true) : Ev (fun k => laws_FnExactFindKept.f k P L R B) true := by
  unfold laws_FnExactFindKept.f
  obtain ⟨l, c, hl, hs, hi⟩ := both_kept P L R B
  refine evG (by unfold laws_toField.f; rfl) (evB hs (evG (by unfold laws_toField.f; rfl) (evB hi (evB (eqInts l (by omega)) (evT (by rfl) ?_)))))
  refine evSucc (fun k => by rw [laws_FnExactFindKept.j0]) ?_
  refine evF (by simp) (evB (markInts l 1 (by omega) (by omega)) (evB (heldInts l.length 1 (by omega) (by omega)) (evF (by omega) (evT (by rfl) ?_))))
  refine evG (by unfold laws_toField.f; rfl) (evB hi (evB (eqInts l (by omega)) (evT (by rfl) ?_)))
  refine evSucc (fun k => by rw [laws_FnExactFindKept.j1]) ?_
  exact evF (by simp) (evB (heldInts l.length 1 (by omega) (by omega)) (evF (by omega) (evT (by rfl) (evS _))))
end Go.Proofs.Ytimoadhkkbedhaa.Pure
