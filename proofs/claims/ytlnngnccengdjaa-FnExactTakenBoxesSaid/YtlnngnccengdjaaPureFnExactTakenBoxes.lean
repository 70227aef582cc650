/-
  The pure statement of the law FnExactTakenBoxes: program and reference tell the same, and the marks hold, whatever the arguments are.
-/
import Derived.Test.YtlnngnccengdjaaQ25
import Derived.Test.YtlnngnccengdjaaWithCode
namespace Go.Proofs.Ytlnngnccengdjaa.Pure
open Go.RowKit Go.Proofs.Ytlnngnccengdjaa.Q Go.Proofs.YtlnngnccengdjaaW.PrintWords Go.Proofs.YtlnngnccengdjaaW.PrintLast Go.Proofs.Ytlnngnccengdjaa.B

theorem both (W H E : Int) : ∃ (l : List Int) (c : Int), l.length ≤ 9 ∧ Ev (fun k => spec_TakenBoxes.f k W H E) (l, c) ∧ Ev (fun k => impl_TakenBoxes.f k W H E) (l, c) := by
  obtain ⟨l, c, hl, hi, hlc⟩ := impl_with_code W H E 4
  refine ⟨l, c, hl, ?_, by unfold impl_TakenBoxes.f; exact evB hi (evS _)⟩
  rw [hlc]
  unfold spec_TakenBoxes.f
  rw [isBox_spec]
  refine evG rfl ?_
  cases h : isBoxB W H E with
  | false => exact evF (by simp) (by rw [if_neg (by simp)]; exact evS _)
  | true =>
    obtain ⟨w, hh, e0, e1⟩ := (isBoxB_iff W H E).1 h
    have f7 := (cnt_facts W H w.1 w.2 hh.1 hh.2).2.2.2.2.2.2.1
    refine evT (by rfl) ?_
    rw [if_pos rfl, if_pos (by omega)]
    exact evB (with_spec W H E 4 w hh e0 (by omega)) (evS _)

theorem FnExactTakenBoxes (W H E : Int) (_ : (Lit.int .i64 W).wf = true) (_ : (Lit.int .i64 H).wf = true) (_ : (Lit.int .i64 E).wf = true) : Ev (fun k => laws_FnExactTakenBoxes.f k W H E) true := by
  unfold laws_FnExactTakenBoxes.f
  obtain ⟨l, c, hl, hs, hi⟩ := both W H E
  refine evG (by unfold laws_toBoxes.f; rfl) (evB hs (evG (by unfold laws_toBoxes.f; rfl) (evB hi (evB (eqInts l (by omega)) (evT (by rfl) ?_)))))
  refine evSucc (fun k => by rw [laws_FnExactTakenBoxes.j0]) ?_
  refine evF (by simp) (evB (markInts l 1 (by omega) (by omega)) (evB (heldInts l.length 1 (by omega) (by omega)) (evF (by omega) (evT (by rfl) ?_))))
  refine evG (by unfold laws_toBoxes.f; rfl) (evB hi (evB (eqInts l (by omega)) (evT (by rfl) ?_)))
  refine evSucc (fun k => by rw [laws_FnExactTakenBoxes.j1]) ?_
  exact evF (by simp) (evB (heldInts l.length 1 (by omega) (by omega)) (evF (by omega) (evT (by rfl) (evS _))))
end Go.Proofs.Ytlnngnccengdjaa.Pure
