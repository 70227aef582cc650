/-
  The pure statement of the law FnExactIsMatching: program and reference tell the same, and the list stays as it was, whatever field and list.
-/
import Derived.Test.YtbojknoehdbphaaQ6
import Derived.Test.YtbojknoehdbphaaMatchPure
import Derived.Test.YtbojknoehdbphaaFirstTwo
import Derived.Test.YtbojknoehdbphaaEvTo
namespace Go.Proofs.Ytbojknoehdbphaa.Pure
open Go.RowKit Go.Proofs.Ytbojknoehdbphaa.Q Go.Proofs.YtbojknoehdbphaaW.PrintWords Go.Proofs.YtbojknoehdbphaaW.PrintLast Go.Proofs.YtbojknoehdbphaaW.PrintMore Go.Proofs.Ytbojknoehdbphaa.B

theorem both_match (P L R B : Int) (l : List Int) (hl : l.length ≤ 1048576) : ∃ b c, Ev (fun k => spec_IsMatching.f k P L R B l) (b, c) ∧ Ev (fun k => impl_IsMatching.f k P L R B l) (b, c) := by
  obtain ⟨f, hf⟩ := field_total P L R B
  have hs : spec_l05Is.f P L R B = some f := by rw [isField_same]; exact hf
  have hlist := listF_ev P l hl
  unfold spec_IsMatching.f impl_IsMatching.f
  cases f with
  | false =>
    refine ⟨false, 1, evG hs (evF (by decide) (evS _)), evT (by omega) (evB hlist (evG hf (evB (first_two _ _ 1 2) (evF (by simp) (evE (by simp) (evS _))))))⟩
  | true =>
    have hP := field_facts P L R B hf
    obtain ⟨b, hb, hbg⟩ := order_ev P hP l hl
    have hw : wrap64 (P - 1) = P - 1 := wrap_in (by omega) (by omega)
    have heq : (decide ((l.length : Int) = P) && risF 0 (wrap64 (P - 1)) (srt l) (srt l).length 0) = b := by
      rw [hw]
      cases b with
      | true =>
        obtain ⟨h1, h2⟩ := hbg.1 rfl
        rw [decide_eq_true h2, (ris_good (P - 1) l).2 h1]
        rfl
      | false =>
        rw [Bool.eq_false_iff]
        intro h
        rw [Bool.and_eq_true, decide_eq_true_eq] at h
        have := hbg.2 ⟨(ris_good (P - 1) l).1 h.2, h.1⟩
        cases this
    rw [heq] at hlist
    cases b with
    | false => exact ⟨false, 2, evG hs (evT rfl (evB hb (evF (by decide) (evS _)))), evT (by omega) (evB hlist (evG hf (evB (first_two _ _ 1 2) (evF (by simp) (evE (by simp) (evS _))))))⟩
    | true =>
      obtain ⟨h1, h2⟩ := hbg.1 rfl
      obtain ⟨m, m1, m2⟩ := match_outer (L := L) (R := R) (B := B) hP h2 h1 P.toNat 0 (by omega) (by omega)
      refine ⟨m, 0, evG hs (evT rfl (evB hb (evT rfl (evB (show Ev (fun k => spec_l05Matches.f k P L R B l) m from m1) (evS _))))), evT (by omega) (evB hlist (evG hf (evB (first_two _ _ 1 2) (evT (by decide) (evB (show Ev (fun k => impl_Field_isMatching.f k P L R B l) m from m2) (evS _))))))⟩
theorem FnExactIsMatching (P L R B : Int) (l : List Int) (_ : (Lit.int .i64 P).wf = true) (_ : (Lit.int .i64 L).wf = true) (_ : (Lit.int .i64 R).wf = true) (_ : (Lit.int .i64 B).wf = true) (_ : l.length ≤ maxLen) (_ : ∀ x ∈ l, (Lit.int .i64 x).wf = true) : Ev (fun k => laws_FnExactIsMatching.f k P L R B l) true := by
  unfold laws_FnExactIsMatching.f
  by_cases h : (l.length : Int) > 1048576
  · exact evT h (evS _)
  have hl : l.length ≤ 1048576 := by omega
  obtain ⟨b, c, hs, hi⟩ := both_match P L R B l hl
  refine evF h (evG rfl (evB (toInts l hl) (evB hs (evB (toInts l hl) (evG rfl (evB hi (evF (by simp) ?_)))))))
  refine evSucc (fun k => by rw [laws_FnExactIsMatching.j0]) ?_
  exact evF (by simp) (evB (toInts l hl) (evB (eqInts l (by omega)) (evT rfl (evS _))))
end Go.Proofs.Ytbojknoehdbphaa.Pure
