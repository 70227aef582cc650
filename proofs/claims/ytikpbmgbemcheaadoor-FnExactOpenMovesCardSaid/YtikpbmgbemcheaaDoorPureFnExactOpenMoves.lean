/-
  The pure statement of the law FnExactOpenMoves: program and reference tell the same list, which belongs to the caller alone, whatever the arguments.
-/
import Derived.Test.YtikpbmgbemcheaaDoorQ22
import Derived.Test.YtikpbmgbemcheaaDoorMovesPure
import Derived.Test.YtikpbmgbemcheaaDoorMarkPure
import Derived.Test.YtikpbmgbemcheaaDoorIntsSame
namespace Go.Proofs.YtikpbmgbemcheaaDoor.Pure
open Go.RowKit Go.Proofs.YtikpbmgbemcheaaDoor.Q Go.Proofs.YtikpbmgbemcheaaDoorW.PrintWords Go.Proofs.YtikpbmgbemcheaaDoorW.PrintLast Go.Proofs.YtikpbmgbemcheaaDoorW.PrintMore Go.Proofs.YtikpbmgbemcheaaDoor.B

theorem both_moves (l : List ByteArray) (hs : Small l) (c0 c1 c2 c3 : Int) : ∃ (r : List Int) (e : Int), Ev (fun k => spec_OpenMoves.f k l c0 c1 c2 c3) (r, e) ∧ Ev (fun k => impl_OpenMoves.f k l c0 c1 c2 c3) (r, e) ∧ r.length ≤ 9 := by
  unfold spec_OpenMoves.f impl_OpenMoves.f
  by_cases h : carC l c0 c1 c2 c3 0 = 0
  · obtain ⟨ht, hf, h2, h3, hm⟩ := carC_zero h
    refine ⟨movesL l c0 c1 c2 c3, 0, evB (carCode_spec l c0 c1 c2 c3 0) (evT h ?_), evB (carCode_impl l hs c0 c1 c2 c3 0) (evT h (evB (moves_impl ht c0 c1 c2 c3 h2 h3) (evS _))), movesL_len _ _ _ _ _⟩
    have := moves_spec_l ht c0 c1 c2 c3 h2 h3 9 0 [] (by omega) (by omega) (by simp)
    simpa [movesL] using this
  · exact ⟨[], carC l c0 c1 c2 c3 0, evB (carCode_spec l c0 c1 c2 c3 0) (evF h (evS _)), evB (carCode_impl l hs c0 c1 c2 c3 0) (evF h (evS _)), by simp⟩
theorem FnExactOpenMoves (l : List ByteArray) (c0 c1 c2 c3 : Int) (hm : l.length ≤ maxLen) (hs : ∀ s ∈ l, s.size ≤ maxLen) (_ : (Lit.int .i64 c0).wf = true) (_ : (Lit.int .i64 c1).wf = true) (_ : (Lit.int .i64 c2).wf = true) (_ : (Lit.int .i64 c3).wf = true) :
    Ev (fun k => laws_FnExactOpenMoves.f k l c0 c1 c2 c3) true := by
  unfold laws_FnExactOpenMoves.f
  obtain ⟨z, hz, h⟩ := szStrs l hm hs
  refine evB hz ?_
  rcases h with h | ⟨h, hl⟩
  · exact evT h (evS _)
  · obtain ⟨r, e, h1, h2, h3⟩ := both_moves l hl c0 c1 c2 c3
    obtain ⟨y, l', g1, g2⟩ := markStrs l hl.1
    have m1 := markInts r 1 (by omega) (by omega)
    have m2 := heldInts r.length 1 (by omega) (by omega)
    have q1 := eqInts r (by omega)
    refine evF (by omega) (evB (toStrs l hl.1) (evG rfl (evB h1 (evB (toStrs l hl.1) (evG rfl (evB h2 (evB q1 (evT rfl ?_))))))))
    refine evSucc (fun k => by rw [laws_FnExactOpenMoves.j0]) ?_
    refine evF (by simp) (evB (toStrs l hl.1) (evB (eqStrs l hl.1) (evT rfl (evB g1 (evF (by show ¬ y < 0; omega) (evB q1 (evT rfl ?_)))))))
    refine evSucc (fun k => by rw [laws_FnExactOpenMoves.j1]) ?_
    refine evF (by simp) (evB m1 (evB m2 (evF (by omega) (evT rfl (evB (toStrs l hl.1) (evG rfl (evB h2 (evB q1 (evT rfl ?_)))))))))
    refine evSucc (fun k => by rw [laws_FnExactOpenMoves.j2]) ?_
    exact evF (by simp) (evB m2 (evF (by omega) (evT rfl (evS _))))
end Go.Proofs.YtikpbmgbemcheaaDoor.Pure
