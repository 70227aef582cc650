/-
  The pure statement of the law FnExactMovesLeft: program and reference tell the same numbers and code, whatever the arguments are.
-/
import Derived.Test.YtimoadhkkbedhaaQ28
import Derived.Test.YtimoadhkkbedhaaQ17
import Derived.Test.YtimoadhkkbedhaaFieldLeft
import Derived.Test.YtimoadhkkbedhaaFieldTwo
namespace Go.Proofs.Ytimoadhkkbedhaa.Pure
open Go.RowKit Go.Proofs.Ytimoadhkkbedhaa.Q Go.Proofs.YtimoadhkkbedhaaW.PrintWords Go.Proofs.YtimoadhkkbedhaaW.PrintLast Go.Proofs.YtimoadhkkbedhaaW.PrintMore Go.Proofs.Ytimoadhkkbedhaa.B

theorem both (P L R B g : Int) (hL : (Lit.int .i64 L).wf = true) : ∃ r : Int × Int × Int, Ev (fun k => spec_MovesLeft.f k P L R B g) r ∧ Ev (fun k => impl_MovesLeft.f k P L R B g) r := by
  unfold spec_MovesLeft.f impl_MovesLeft.f
  obtain ⟨b, hb⟩ := field_total P L R B
  have h1 := code_spec0 P L R B g b hb
  have h2 := code_impl P L R B g 0 b hb
  by_cases c : codeF P L R B g 0 b = 0
  · obtain ⟨rfl, _, hp⟩ := codeF_zero P L R B g 0 b c
    have hP := field_facts P L R B hb
    rw [c] at h1 h2
    obtain ⟨m, n, rfl, rfl, h⟩ := field_two P L R B hb
    have hfr := fr_le m n P.toNat
    obtain ⟨T', h3, _⟩ := left_spec (g := g) hP (fr m n P.toNat + 1) m n 0 _ (.inl rfl) h (by omega) (TabL.new P L g)
    have h4 := left_impl (g := g) hP hL 12 m n 0 (.inl rfl) h (by omega)
    generalize lf P L g m n 0 = r at h3 h4
    exact ⟨(r.1, r.2, 0), evB h1 (evT rfl (evB (table_spec P L m n hP) (evB h3 (evS _)))), evB h2 (evT rfl (evB h4 (evS _)))⟩
  · exact ⟨(0, 0, codeF P L R B g 0 b), evB h1 (evF c (evS _)), evB h2 (evF c (evS _))⟩
theorem FnExactMovesLeft (P L R B g : Int) (_ : (Lit.int .i64 P).wf = true) (hL : (Lit.int .i64 L).wf = true) (_ : (Lit.int .i64 R).wf = true) (_ : (Lit.int .i64 B).wf = true) (_ : (Lit.int .i64 g).wf = true) : Ev (fun k => laws_FnExactMovesLeft.f k P L R B g) true := by
  unfold laws_FnExactMovesLeft.f
  obtain ⟨r, hs, hi⟩ := both P L R B g hL
  exact evG (by unfold laws_toField.f; rfl) (evB hs (evG (by unfold laws_toField.f; rfl) (evB hi (evT rfl (evT rfl (evT rfl (evS _)))))))
end Go.Proofs.Ytimoadhkkbedhaa.Pure
