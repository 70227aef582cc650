/-
  The pure statement of the law FnExactMoveCar: program and reference answer alike, and the rows stay as they were, whatever the arguments.
-/
import Derived.Test.YtikpbmgbemcheaaDoorQ19
import Derived.Test.YtikpbmgbemcheaaDoorQ11
import Derived.Test.YtikpbmgbemcheaaDoorCarPure
namespace Go.Proofs.YtikpbmgbemcheaaDoor.Pure
open Go.RowKit Go.Proofs.YtikpbmgbemcheaaDoor.Q Go.Proofs.YtikpbmgbemcheaaDoorW.PrintWords Go.Proofs.YtikpbmgbemcheaaDoorW.PrintLast Go.Proofs.YtikpbmgbemcheaaDoorW.PrintMore Go.Proofs.YtikpbmgbemcheaaDoor.B

theorem both_move (l : List ByteArray) (hs : Small l) (c0 c1 c2 c3 m : Int) : ∃ a b c d e : Int, Ev (fun k => spec_MoveCar.f k l c0 c1 c2 c3 m) (a, b, c, d, e) ∧ Ev (fun k => impl_MoveCar.f k l c0 c1 c2 c3 m) (a, b, c, d, e) := by
  unfold spec_MoveCar.f impl_MoveCar.f
  by_cases h : carC l c0 c1 c2 c3 m = 0
  · obtain ⟨ht, hf, h2, h3, hm⟩ := carC_zero h
    have e1 := move_spec ht c0 c1 c2 c3 m h2 h3 hm
    have e2 := open_impl ht c0 c1 c2 c3 m h2 h3 hm
    by_cases ho : openB l c0 c1 c2 c3 m = true
    · refine ⟨wrap64 (c0 + stepU c2 m), wrap64 (c1 + stepV c3 m), stepU c2 m, stepV c3 m, 0, evB (carCode_spec l c0 c1 c2 c3 m) (evT h (evB e1 ?_)), evB (carCode_impl l hs c0 c1 c2 c3 m) (evT h (evB e2 ?_))⟩
      · unfold moveR
        rw [if_pos ho]
        exact evT rfl (evS _)
      · refine evSucc (fun k => by rw [impl_MoveCar.j0]) ?_
        exact evF (by simp [ho]) (evT h (evG (driven_eq c0 c1 c2 c3 m) (evS _)))
    · refine ⟨0, 0, 0, 0, 5, evB (carCode_spec l c0 c1 c2 c3 m) (evT h (evB e1 ?_)), evB (carCode_impl l hs c0 c1 c2 c3 m) (evT h (evB e2 ?_))⟩
      · unfold moveR
        rw [if_neg ho]
        exact evF (by simp) (evS _)
      · refine evSucc (fun k => by rw [impl_MoveCar.j0]) ?_
        exact evT (by simpa using ho) (evS _)
  · refine ⟨0, 0, 0, 0, carC l c0 c1 c2 c3 m, evB (carCode_spec l c0 c1 c2 c3 m) (evF h (evS _)), evB (carCode_impl l hs c0 c1 c2 c3 m) (evF h ?_)⟩
    refine evSucc (fun k => by rw [impl_MoveCar.j0]) ?_
    exact evF (by simp) (evF h (evS _))
theorem FnExactMoveCar (l : List ByteArray) (c0 c1 c2 c3 m : Int) (hm : l.length ≤ maxLen) (hs : ∀ s ∈ l, s.size ≤ maxLen) (_ : (Lit.int .i64 c0).wf = true) (_ : (Lit.int .i64 c1).wf = true) (_ : (Lit.int .i64 c2).wf = true) (_ : (Lit.int .i64 c3).wf = true) (_ : (Lit.int .i64 m).wf = true) :
    Ev (fun k => laws_FnExactMoveCar.f k l c0 c1 c2 c3 m) true := by
  unfold laws_FnExactMoveCar.f
  obtain ⟨z, hz, h⟩ := szStrs l hm hs
  refine evB hz ?_
  rcases h with h | ⟨h, hl⟩
  · exact evT h (evS _)
  · obtain ⟨a, b, c, d, e, h1, h2⟩ := both_move l hl c0 c1 c2 c3 m
    refine evF (by omega) (evB (toStrs l hl.1) (evG rfl (evB h1 (evB (toStrs l hl.1) (evG rfl (evB h2 (evG (eqCar_same a b c d) (evT rfl ?_))))))))
    refine evSucc (fun k => by rw [laws_FnExactMoveCar.j0]) ?_
    exact evF (by simp) (evB (toStrs l hl.1) (evB (eqStrs l hl.1) (evT rfl (evS _))))
end Go.Proofs.YtikpbmgbemcheaaDoor.Pure
