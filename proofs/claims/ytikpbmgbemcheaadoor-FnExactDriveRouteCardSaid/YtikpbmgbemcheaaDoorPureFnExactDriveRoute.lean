/-
  The pure statement of the law FnExactDriveRoute: program and reference answer alike, and the arguments stay as they were, whatever the arguments.
-/
import Derived.Test.YtikpbmgbemcheaaDoorQ20
import Derived.Test.YtikpbmgbemcheaaDoorDrivePure
import Derived.Test.YtikpbmgbemcheaaDoorIntsSame
import Derived.Test.YtikpbmgbemcheaaDoorEvTo
namespace Go.Proofs.YtikpbmgbemcheaaDoor.Pure
open Go.RowKit Go.Proofs.YtikpbmgbemcheaaDoor.Q Go.Proofs.YtikpbmgbemcheaaDoorW.PrintWords Go.Proofs.YtikpbmgbemcheaaDoorW.PrintLast Go.Proofs.YtikpbmgbemcheaaDoorW.PrintMore Go.Proofs.YtikpbmgbemcheaaDoor.B

theorem FnExactDriveRoute (l : List ByteArray) (ms : List Int) (hm : l.length ≤ maxLen) (hs : ∀ s ∈ l, s.size ≤ maxLen) (_ : ms.length ≤ maxLen) (_ : ∀ x ∈ ms, (Lit.int .i64 x).wf = true) :
    Ev (fun k => laws_FnExactDriveRoute.f k l ms) true := by
  unfold laws_FnExactDriveRoute.f
  by_cases cl : (ms.length : Int) > 1048576
  · exact evT cl (evS _)
  refine evF cl ?_
  obtain ⟨z, hz, h⟩ := szStrs l hm hs
  refine evB hz ?_
  rcases h with h | ⟨h, hl⟩
  · exact evT h (evS _)
  · obtain ⟨a, b, c, d, e, h1, h2⟩ := both_drive l hl ms (by omega)
    have t1 := toInts ms (by omega)
    refine evF (by omega) (evB (toStrs l hl.1) (evB t1 (evB h1 (evB (toStrs l hl.1) (evB t1 (evB h2 (evG (eqCar_same a b c d) (evT rfl ?_))))))))
    refine evSucc (fun k => by rw [laws_FnExactDriveRoute.j0]) ?_
    exact evF (by simp) (evB (toStrs l hl.1) (evB (eqStrs l hl.1) (evT rfl (evB t1 (evB (eqInts ms (by omega)) (evT rfl (evS _)))))))
end Go.Proofs.YtikpbmgbemcheaaDoor.Pure
