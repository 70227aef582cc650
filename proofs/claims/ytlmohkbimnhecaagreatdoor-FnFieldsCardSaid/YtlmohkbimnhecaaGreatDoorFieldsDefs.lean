/-
  The law FnFields told plainly: what is drawn, what both sides answer, what is asked of the answers.
-/
import Derived.Test.YtlmohkbimnhecaaGreatDoorQ2
import Derived.Test.YtlmohkbimnhecaaGreatDoorQ5
import Derived.Test.YtlmohkbimnhecaaGreatDoorQ6
import Derived.Test.YtlmohkbimnhecaaGreatDoorQ8
import Derived.Test.YtlmohkbimnhecaaGreatDoorQ4
import Derived.Test.YtlmohkbimnhecaaGreatDoorQ1
import Derived.Test.YtlmohkbimnhecaaGreatDoorQ3
import Derived.Test.YtlmohkbimnhecaaGreatDoorQ7
import Derived.Test.YtlmohkbimnhecaaGreatDoorOutParse
namespace Go.Proofs.YtlmohkbimnhecaaGreatDoor.Q
open Go.RowKit Go.Proofs.YtlmohkbimnhecaaGreatDoorW.PrintWords Go.Proofs.YtlmohkbimnhecaaGreatDoorW.PrintLast Go.Proofs.YtlmohkbimnhecaaGreatDoorW.PrintMore

/-- What the law asks of a union, line by line. -/
def unionOk (k : Nat) (a0 a1 a2 a3 b0 b1 b2 b3 u0 u1 u2 u3 : Int) : Prop := u0 ≤ 100 ∧ (0 ≤ a0 ∧ a0 ≤ 100) ∧ ∀ x y : Nat, (x : Int) < u0 → y < x → ∃ b : Bool, impl_AreJoined.f k u0 u1 u2 u3 x y = some (b, 0) ∧
  ((x : Int) < a0 → ∃ e, impl_AreJoined.f k a0 a1 a2 a3 x y = some (b, e)) ∧ (¬ (x : Int) < a0 → (y : Int) ≥ a0 → ∃ e, impl_AreJoined.f k b0 b1 b2 b3 (x - a0) (y - a0) = some (b, e)) ∧ (¬ (x : Int) < a0 → ¬ (y : Int) ≥ a0 → b = false)
end Go.Proofs.YtlmohkbimnhecaaGreatDoor.Q
