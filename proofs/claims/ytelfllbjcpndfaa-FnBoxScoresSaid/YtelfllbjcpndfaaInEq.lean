/-
  Whether a number lies in bounds: what program and reference come to. No condition.
-/
import Derived.Test.YtelfllbjcpndfaaQ1
namespace Go.Proofs.Ytelfllbjcpndfaa.B
open Go.RowKit Go.Proofs.Ytelfllbjcpndfaa.Q Go.Proofs.YtelfllbjcpndfaaW.PrintWords Go.Proofs.YtelfllbjcpndfaaW.PrintLast

theorem l01In_eq (x lo hi : Int) : spec_l01In.f x lo hi = some (decide (lo ≤ x ∧ x ≤ hi)) := by
  unfold spec_l01In.f
  by_cases h : x ≥ lo
  · rw [if_pos h]
    simp [show lo ≤ x from h]
  · rw [if_neg h]
    simp [show ¬ lo ≤ x from h]
theorem within_eq (x lo hi : Int) : impl_within.f x lo hi = some (decide (lo ≤ x ∧ x ≤ hi)) := by
  unfold impl_within.f
  by_cases h : lo ≤ x
  · rw [if_pos h]
    simp [h]
  · rw [if_neg h]
    simp [h]
end Go.Proofs.Ytelfllbjcpndfaa.B
