/-
  The pure statement of the law FnExactPlayField: program and reference tell the same play and code, and the marks hold, whatever the arguments are.
-/
import Derived.Test.YtimoadhkkbedhaaQ31
import Derived.Test.YtimoadhkkbedhaaFieldPlay
namespace Go.Proofs.Ytimoadhkkbedhaa.Pure
open Go.RowKit Go.Proofs.Ytimoadhkkbedhaa.Q Go.Proofs.YtimoadhkkbedhaaW.PrintWords Go.Proofs.YtimoadhkkbedhaaW.PrintLast Go.Proofs.YtimoadhkkbedhaaW.PrintMore Go.Proofs.Ytimoadhkkbedhaa.B

theorem both (P L R B g p : Int) (hL : (Lit.int .i64 L).wf = true) : ∃ (l : List Int) (c : Int), l.length ≤ 9 ∧ Ev (fun k => spec_PlayField.f k P L R B g p) (l, c) ∧ Ev (fun k => impl_PlayField.f k P L R B g p) (l, c) := by
  unfold spec_PlayField.f impl_PlayField.f
  obtain ⟨b, hb⟩ := field_total P L R B
  have h1 := code_spec P L R B g p b hb
  have h2 := code_impl P L R B g p b hb
  by_cases c : codeF P L R B g p b = 0
  · obtain ⟨rfl, _, hp⟩ := codeF_zero P L R B g p b c
    have hP := field_facts P L R B hb
    rw [c] at h1 h2
    obtain ⟨m, n, rfl, rfl, h⟩ := field_two P L R B hb
    have hfr := fr_le m n P.toNat
    have h3 := play_spec hP 8 m n p [] _ (by omega) h (by omega) (by simp) (TabW.new P L g)
    have h4 := play_impl (g := g) hP hL 8 m n p 40 [] (by omega) h (by omega) (by omega) (by simp)
    rw [List.nil_append] at h3 h4
    have hl := playM_len P L g (8 + 1) m n p
    generalize playM P L g (8 + 1) m n p = l at h3 h4 hl
    exact ⟨l, 0, hl, evB h1 (evT rfl (evB (table_spec P L m n hP) h3)), evB h2 (evT rfl (evB h4 (evS _)))⟩
  · exact ⟨[], codeF P L R B g p b, by simp, evB h1 (evF c (evS _)), evB h2 (evF c (evS _))⟩

theorem FnExactPlayField (P L R B g p : Int) (_ : (Lit.int .i64 P).wf = true) (hL : (Lit.int .i64 L).wf = true) (_ : (Lit.int .i64 R).wf = true) (_ : (Lit.int .i64 B).wf = true) (_ : (Lit.int .i64 g).wf = true) (_ : (Lit.int .i64 p).wf = true) : Ev (fun k => laws_FnExactPlayField.f k P L R B g p) true := by
  unfold laws_FnExactPlayField.f
  obtain ⟨l, c, hl, hs, hi⟩ := both P L R B g p hL
  refine evG (by unfold laws_toField.f; rfl) (evB hs (evG (by unfold laws_toField.f; rfl) (evB hi (evB (eqInts l (by omega)) (evT (by rfl) ?_)))))
  refine evSucc (fun k => by rw [laws_FnExactPlayField.j0]) ?_
  refine evF (by simp) (evB (markInts l 1 (by omega) (by omega)) (evB (heldInts l.length 1 (by omega) (by omega)) (evF (by omega) (evT (by rfl) ?_))))
  refine evG (by unfold laws_toField.f; rfl) (evB hi (evB (eqInts l (by omega)) (evT (by rfl) ?_)))
  refine evSucc (fun k => by rw [laws_FnExactPlayField.j1]) ?_
  exact evF (by simp) (evB (heldInts l.length 1 (by omega) (by omega)) (evF (by omega) (evT (by rfl) (evS _))))
end Go.Proofs.Ytimoadhkkbedhaa.Pure
