/-
  The pure statement of the law FnExactBoxesWith: program and reference tell the same, and the marks hold, whatever the arguments are.
-/
import Derived.Test.YtlnngnccengdjaaQ26
import Derived.Test.YtlnngnccengdjaaWithCode
namespace Go.Proofs.Ytlnngnccengdjaa.Pure
open Go.RowKit Go.Proofs.Ytlnngnccengdjaa.Q Go.Proofs.YtlnngnccengdjaaW.PrintWords Go.Proofs.YtlnngnccengdjaaW.PrintLast Go.Proofs.Ytlnngnccengdjaa.B

theorem both (W H E n : Int) : ∃ (l : List Int) (c : Int), l.length ≤ 9 ∧ Ev (fun k => spec_BoxesWith.f k W H E n) (l, c) ∧ Ev (fun k => impl_BoxesWith.f k W H E n) (l, c) := by
  obtain ⟨l, c, hl, hi, hlc⟩ := impl_with_code W H E n
  refine ⟨l, c, hl, ?_, hi⟩
  rw [hlc]
  unfold spec_BoxesWith.f
  rw [isBox_spec, l01In_eq]
  refine evG rfl ?_
  cases h : isBoxB W H E with
  | false => exact evF (by simp) (by rw [if_neg (by simp)]; exact evS _)
  | true =>
    obtain ⟨w, hh, e0, e1⟩ := (isBoxB_iff W H E).1 h
    have f7 := (cnt_facts W H w.1 w.2 hh.1 hh.2).2.2.2.2.2.2.1
    refine evT (by rfl) (evG rfl ?_)
    rw [if_pos rfl]
    by_cases hn : 0 ≤ n ∧ n ≤ 4
    · rw [if_pos hn]
      exact evT (by simpa using hn) (evB (with_spec W H E n w hh e0 (by omega)) (evS _))
    · rw [if_neg hn]
      exact evF (by simpa using hn) (evS _)

theorem FnExactBoxesWith (W H E n : Int) (_ : (Lit.int .i64 W).wf = true) (_ : (Lit.int .i64 H).wf = true) (_ : (Lit.int .i64 E).wf = true) (_ : (Lit.int .i64 n).wf = true) : Ev (fun k => laws_FnExactBoxesWith.f k W H E n) true := by
  unfold laws_FnExactBoxesWith.f
  obtain ⟨l, c, hl, hs, hi⟩ := both W H E n
  refine evG (by unfold laws_toBoxes.f; rfl) (evB hs (evG (by unfold laws_toBoxes.f; rfl) (evB hi (evB (eqInts l (by omega)) (evT (by rfl) ?_)))))
  refine evSucc (fun k => by rw [laws_FnExactBoxesWith.j0]) ?_
  refine evF (by simp) (evB (markInts l 1 (by omega) (by omega)) (evB (heldInts l.length 1 (by omega) (by omega)) (evF (by omega) (evT (by rfl) ?_))))
  refine evG (by unfold laws_toBoxes.f; rfl) (evB hi (evB (eqInts l (by omega)) (evT (by rfl) ?_)))
  refine evSucc (fun k => by rw [laws_FnExactBoxesWith.j1]) ?_
  exact evF (by simp) (evB (heldInts l.length 1 (by omega) (by omega)) (evF (by omega) (evT (by rfl) (evS _))))
end Go.Proofs.Ytlnngnccengdjaa.Pure
