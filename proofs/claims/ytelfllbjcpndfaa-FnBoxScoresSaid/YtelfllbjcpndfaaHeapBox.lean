/-
  Heaps from which one thing is taken at a time, of 1 to 4 things, and one box with as many edges that are not drawn: both are won just where the number is odd.
-/
import Derived.Test.YtelfllbjcpndfaaScoreBoth
import Derived.Test.YtelfllbjcpndfaaOutBoxScores
namespace Go.Proofs.Ytelfllbjcpndfaa.B
open Go.RowKit Go.Proofs.Ytelfllbjcpndfaa.Q Go.Proofs.YtelfllbjcpndfaaW.PrintWords Go.Proofs.YtelfllbjcpndfaaW.PrintLast Go.Proofs.YtelfllbjcpndfaaW.PrintMore

theorem heap_at (x : Int) (R : List (List Int)) (B : List Bool) (h1 : impl_HeapGame.f 40 x [1] = some (R, 0)) (h2 : impl_WonPlaces.f 40 R = some (B, 0)) (k : Nat) (hk : 40 ≤ k) : impl_HeapGame.f k x [1] = some (R, 0) ∧ impl_WonPlaces.f k R = some (B, 0) :=
  ⟨at_rounds (g := fun k => impl_HeapGame.f k x [1]) (fun k => impl_HeapGame.mono _ _ k) hk h1, at_rounds (g := fun k => impl_WonPlaces.f k R) (fun k => impl_WonPlaces.mono _ k) hk h2⟩
theorem box_at (q : Nat) (v : Int) (hc : codeN 1 1 q = 0) (hs : sc 1 1 q = v) : ∃ N, ∀ k, N ≤ k → impl_NetScore.f k 1 1 (q : Int) = some (v, 0) := by
  obtain ⟨r, _, h2, h3⟩ := net_both 1 1 (q : Int)
  rw [hc] at h2
  have e := h3 hc
  rw [Int.toNat_natCast, hs] at e
  subst e
  exact h2
theorem heap_ok : ∃ N, ∀ k, N ≤ k → ∀ x : Nat, 1 ≤ x → x ≤ 4 → heapOk k x := by
  obtain ⟨N1, n1⟩ := box_at 7 1 (by decide +kernel) (by decide +kernel)
  obtain ⟨N2, n2⟩ := box_at 3 (-1) (by decide +kernel) (by decide +kernel)
  obtain ⟨N3, n3⟩ := box_at 1 1 (by decide +kernel) (by decide +kernel)
  obtain ⟨N4, n4⟩ := box_at 0 (-1) (by decide +kernel) (by decide +kernel)
  refine ⟨N1 + N2 + N3 + N4 + 40, fun k hk x h1 h4 => ?_⟩
  have hx : x = 1 ∨ x = 2 ∨ x = 3 ∨ x = 4 := by omega
  rcases hx with rfl | rfl | rfl | rfl
  · obtain ⟨a, b⟩ := heap_at 1 [[1], []] [true, false] (by decide +kernel) (by decide +kernel) k (by omega)
    exact ⟨_, _, 1, 7, by decide +kernel, n1 k (by omega), a, b, by decide, by rfl, .inl rfl⟩
  · obtain ⟨a, b⟩ := heap_at 2 [[1], [2], []] [false, true, false] (by decide +kernel) (by decide +kernel) k (by omega)
    exact ⟨_, _, -1, 3, by decide +kernel, n2 k (by omega), a, b, by decide, by rfl, .inr rfl⟩
  · obtain ⟨a, b⟩ := heap_at 3 [[1], [2], [3], []] [true, false, true, false] (by decide +kernel) (by decide +kernel) k (by omega)
    exact ⟨_, _, 1, 1, by decide +kernel, n3 k (by omega), a, b, by decide, by rfl, .inl rfl⟩
  · obtain ⟨a, b⟩ := heap_at 4 [[1], [2], [3], [4], []] [false, true, false, true, false] (by decide +kernel) (by decide +kernel) k (by omega)
    exact ⟨_, _, -1, 0, by decide +kernel, n4 k (by omega), a, b, by decide, by rfl, .inr rfl⟩
end Go.Proofs.Ytelfllbjcpndfaa.B
