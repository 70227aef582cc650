/-
  The pure statement of the law FnExactFirstCar: program and reference answer alike, and the rows stay as they were, whatever the rows.
-/
import Derived.Test.YtikpbmgbemcheaaDoorQ18
import Derived.Test.YtikpbmgbemcheaaDoorQ10
import Derived.Test.YtikpbmgbemcheaaDoorFirstPure
import Derived.Test.YtikpbmgbemcheaaDoorOutCar
namespace Go.Proofs.YtikpbmgbemcheaaDoor.Pure
open Go.RowKit Go.Proofs.YtikpbmgbemcheaaDoor.Q Go.Proofs.YtikpbmgbemcheaaDoorW.PrintWords Go.Proofs.YtikpbmgbemcheaaDoorW.PrintLast Go.Proofs.YtikpbmgbemcheaaDoorW.PrintMore Go.Proofs.YtikpbmgbemcheaaDoor.B

theorem both_first (l : List ByteArray) (hs : Small l) : ∃ a b c d e : Int, Ev (fun k => spec_FirstCar.f k l) (a, b, c, d, e) ∧ impl_FirstCar.f l = some (a, b, c, d, e) := by
  unfold spec_FirstCar.f impl_FirstCar.f
  rw [track_impl l hs]
  simp only [Option.bind_some]
  by_cases h : isT l = true
  · obtain ⟨x, y, h1, h2, _⟩ := first_both h
    rw [if_pos h, h2]
    exact ⟨x, y, 0, 0, 0, evB (track_spec l) (evT h (evB h1 (evS _))), rfl⟩
  · rw [if_neg h]
    exact ⟨0, 0, 0, 0, 1, evB (track_spec l) (evF h (evS _)), rfl⟩
theorem FnExactFirstCar (l : List ByteArray) (hm : l.length ≤ maxLen) (hs : ∀ s ∈ l, s.size ≤ maxLen) : Ev (fun k => laws_FnExactFirstCar.f k l) true := by
  unfold laws_FnExactFirstCar.f
  obtain ⟨z, hz, h⟩ := szStrs l hm hs
  refine evB hz ?_
  rcases h with h | ⟨h, hl⟩
  · exact evT h (evS _)
  · obtain ⟨a, b, c, d, e, h1, h2⟩ := both_first l hl
    refine evF (by omega) (evB (toStrs l hl.1) (evB h1 (evB (toStrs l hl.1) (evG h2 (evG (if_pos ⟨rfl, rfl, rfl, rfl⟩) (evT rfl ?_))))))
    refine evSucc (fun k => by rw [laws_FnExactFirstCar.j0]) ?_
    exact evF (by simp) (evB (toStrs l hl.1) (evB (eqStrs l hl.1) (evT rfl (evS _))))
end Go.Proofs.YtikpbmgbemcheaaDoor.Pure
