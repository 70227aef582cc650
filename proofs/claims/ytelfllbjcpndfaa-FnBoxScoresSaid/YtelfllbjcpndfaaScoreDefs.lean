/-
  What the law FnBoxScores asks of a play, edge by edge. No condition.
-/
import Derived.Test.YtelfllbjcpndfaaQ5
namespace Go.Proofs.Ytelfllbjcpndfaa.Q
open Go.RowKit Go.Proofs.YtelfllbjcpndfaaW.PrintWords Go.Proofs.YtelfllbjcpndfaaW.PrintLast Go.Proofs.YtelfllbjcpndfaaW.PrintMore

/-- Who goes on. -/
def sgn (s n : Int) : Int := if n = 0 then -s else s
/-- The rest of a play is drawn and scored. -/
def roundsF (k : Nat) (W H score : Int) : List Int → Int → Int → Int → Prop
  | [], _, _, t => t = score
  | e :: rest, E, s, t => ∃ E' n : Int, impl_AddEdge.f k W H E e = some (W, H, E', n, 0) ∧ (s = 1 ∨ s = -1) ∧ (-100 ≤ t ∧ t ≤ 100) ∧ (0 ≤ n ∧ n ≤ 9) ∧ roundsF k W H score rest E' (sgn s n) (t + s * n)
end Go.Proofs.Ytelfllbjcpndfaa.Q
