/-
  Plain lemmas: the last digit of a number, and shifts of numbers that are at least 0. No Go in them.
-/
import Derived.Test.YtbojknoehdbphaaDoorEvBase
namespace Go.Proofs.YtbojknoehdbphaaDoor.B
open Go.RowKit Go.Proofs.YtbojknoehdbphaaDoor.Q Go.Proofs.YtbojknoehdbphaaDoorW.PrintWords Go.Proofs.YtbojknoehdbphaaDoorW.PrintLast Go.Proofs.YtbojknoehdbphaaDoorW.PrintMore

theorem bit01 (x : Int) (h0 : 0 ≤ x) (h1 : x < 9223372036854775808) : Go.bits .and .i64 x 1 = x % 2 := by
  have h := bits_mask .i64 63 (by decide) (fun n h0 h1 => by rw [show (2 : Int) ^ 63 = 9223372036854775808 by decide] at h1; rw [IntKind.wrap_i64]; omega) 1 (by decide) x h0 (by rw [show (2 : Int) ^ 63 = 9223372036854775808 by decide]; omega)
  simpa using h
theorem shr_range (x e : Int) (h0 : 0 ≤ x) (h1 : x < 9223372036854775808) : 0 ≤ shr .i64 x e ∧ shr .i64 x e < 9223372036854775808 := by
  unfold shr
  have hp : (0 : Int) < 2 ^ min e.toNat IntKind.i64.bits := Int.pow_pos (by decide)
  refine ⟨Int.ediv_nonneg h0 (Int.le_of_lt hp), ?_⟩
  have := Int.ediv_le_self (2 ^ min e.toNat IntKind.i64.bits) h0
  omega
end Go.Proofs.YtbojknoehdbphaaDoor.B
