/-
  The pure statement of the law FnExactIsState: program and reference answer alike with the same code, and the board stays as it was, whatever the arguments are.
-/
import Derived.Test.YtjeiifiacjhfoaaQ21
import Derived.Test.YtjeiifiacjhfoaaBoardSets
import Derived.Test.YtjeiifiacjhfoaaBoardEv
namespace Go.Proofs.Ytjeiifiacjhfoaa.Pure
open Go.RowKit Go.Proofs.Ytjeiifiacjhfoaa.Q Go.Proofs.YtjeiifiacjhfoaaW.PrintWords Go.Proofs.YtjeiifiacjhfoaaW.PrintLast Go.Proofs.YtjeiifiacjhfoaaW.PrintMore Go.Proofs.Ytjeiifiacjhfoaa.B

theorem both (n : Int) (L : List Int) (a b : Int) (h : L.length ≤ 1048576) : ∃ r : Bool × Int, Ev (fun k => spec_IsState.f k n L a b) r ∧ Ev (fun k => impl_IsState.f k n L a b) r := by
  unfold spec_IsState.f impl_IsState.f
  have h1 := sets_spec n L a b h
  have h2 := sets_impl n L a b h
  by_cases c : setsC n L a b = 0
  · obtain ⟨_, c1, c2, c3⟩ := setsC_zero n L a b c
    rw [if_pos c] at h1
    cases hs : stateB a b with
    | true =>
      rw [hs, if_pos rfl] at h1
      exact ⟨(true, 0), evB h1 (evF (by decide) (evS _)), evB h2 (evT c (by rw [state_impl a b (by omega) (by omega), hs]; exact evG rfl (evS _)))⟩
    | false =>
      rw [hs, if_neg (by simp)] at h1
      exact ⟨(false, 0), evB h1 (evT rfl (evS _)), evB h2 (evT c (by rw [state_impl a b (by omega) (by omega), hs]; exact evG rfl (evS _)))⟩
  · rw [if_neg c] at h1
    have c5 : setsC n L a b ≠ 5 := by unfold setsC; split <;> (try split) <;> decide
    refine ⟨(false, setsC n L a b), evB h1 (evF c5 (evE ?_ (evS _))), evB h2 (evF c (evS _))⟩
    simp [c]

theorem FnExactIsState (n : Int) (L : List Int) (a b : Int) (_ : (Lit.int .i64 n).wf = true) (hm : L.length ≤ maxLen) (_ : ∀ x ∈ L, (Lit.int .i64 x).wf = true) (_ : (Lit.int .i64 a).wf = true) (_ : (Lit.int .i64 b).wf = true) : Ev (fun k => laws_FnExactIsState.f k n L a b) true := by
  unfold laws_FnExactIsState.f
  by_cases h : L.length ≤ 1048576
  · obtain ⟨r, hs, hi⟩ := both n L a b h
    rw [szB_ok n L h]
    refine evG rfl (evF (by omega) (evB (toB n L h) (evB hs (evB (toB n L h) (evB hi (evF (by simp) ?_))))))
    refine evSucc (fun k => by rw [laws_FnExactIsState.j0]) ?_
    exact evF (by simp) (evB (toB n L h) (evB (eqB n L h) (evT rfl (evS _))))
  · rw [szB_big n L hm (by omega)]
    exact evG rfl (evT (by omega) (evS _))
end Go.Proofs.Ytjeiifiacjhfoaa.Pure
