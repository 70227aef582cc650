/-
  The code of the first of two conditions that does not hold. No condition.
-/
import Derived.Test.YtelfllbjcpndfaaQ1
import Derived.Test.YtelfllbjcpndfaaHof
namespace Go.Proofs.Ytelfllbjcpndfaa.B
open Go.RowKit Go.Proofs.Ytelfllbjcpndfaa.Q Go.Proofs.YtelfllbjcpndfaaW.PrintWords Go.Proofs.YtelfllbjcpndfaaW.PrintLast

theorem first_two (b c : Bool) (x y : Int) : Ev (fun k => impl_first.f k [⟨b, x⟩, ⟨c, y⟩]) (if b = true then if c = true then 0 else y else x) := by
  unfold impl_first.f
  refine evSucc (fun k => by rw [impl_first.l0]) ?_
  refine evT (by simp) (evT (by omega) (evT (by simp) ?_))
  cases b with
  | false => exact evF (by simp [rd_T73]) (evS _)
  | true =>
    refine evT (by simp [rd_T73]) ?_
    rw [show wrap64 (0 + 1) = 1 by decide +kernel]
    refine evSucc (fun k => by rw [impl_first.l0]) ?_
    refine evT (by simp) (evT (by omega) (evT (by simp) ?_))
    cases c with
    | false => exact evF (by simp [rd_T73]) (evS _)
    | true =>
      refine evT (by simp [rd_T73]) ?_
      rw [show wrap64 (1 + 1) = 2 by decide +kernel]
      exact evE (r := (0 : Int)) (by simp) (evSucc (fun k => by rw [impl_first.l0]) (evF (by simp) (evS _)))
theorem first_one (b : Bool) (x : Int) : Ev (fun k => impl_first.f k [⟨b, x⟩]) (if b = true then 0 else x) := by
  unfold impl_first.f
  refine evSucc (fun k => by rw [impl_first.l0]) ?_
  refine evT (by simp) (evT (by omega) (evT (by simp) ?_))
  cases b with
  | false => exact evF (by simp [rd_T73]) (evS _)
  | true =>
    refine evT (by simp [rd_T73]) ?_
    rw [show wrap64 (0 + 1) = 1 by decide +kernel]
    exact evE (r := (0 : Int)) (by simp) (evSucc (fun k => by rw [impl_first.l0]) (evF (by simp) (evS _)))
end Go.Proofs.Ytelfllbjcpndfaa.B
