/-
  The counting of nodes: program and reference come to the number of ones, below 2^24.
-/
import Derived.Test.YtjeiifiacjhfoaaQ4
import Derived.Test.YtjeiifiacjhfoaaQ3
import Derived.Test.YtjeiifiacjhfoaaOnes
namespace Go.Proofs.Ytjeiifiacjhfoaa.B
open Go.RowKit Go.Proofs.Ytjeiifiacjhfoaa.Q Go.Proofs.YtjeiifiacjhfoaaW.PrintWords Go.Proofs.YtjeiifiacjhfoaaW.PrintLast Go.Proofs.YtjeiifiacjhfoaaW.PrintMore

/-- The number of ones of a number that is not negative. -/
def popI (x : Int) : Int := (pop x.toNat : Int)
theorem popI_range (x : Int) : 0 ≤ popI x ∧ popI x ≤ 64 := by
  have := pop_range x.toNat
  unfold popI
  omega
theorem many_eq (x : Int) (h0 : 0 ≤ x) (h1 : x < 16777216) : impl_many.f x = some (popI x) := by
  obtain ⟨n, rfl⟩ := Int.eq_ofNat_of_zero_le h0
  unfold impl_many.f popI
  rw [u64_id n (by have : (2 : Nat) ^ 63 = 9223372036854775808 := (by decide); omega), ones_go n (by omega), Int.toNat_natCast]
  rfl
theorem ones_loop (m : Nat) : ∀ (n : Nat) (c : Int), pop n = m → n < 2 ^ 62 → 0 ≤ c → c + m ≤ 1000000 → Ev (fun k => spec_l07Ones.l0 k (n : Int) c) (c + m) := by
  induction m with
  | zero =>
    intro n c hp hn h0 h1
    refine evSucc (fun k => by rw [spec_l07Ones.l0]) ?_
    refine evF (fun h => ?_) (evE (by omega) (evS c))
    have := pop_less n (by omega) hn
    omega
  | succ m ih =>
    intro n c hp hn h0 h1
    refine evSucc (fun k => by rw [spec_l07Ones.l0]) ?_
    by_cases h : n = 0
    · subst h
      unfold pop at hp
      rw [popF_zero] at hp
      omega
    · have hl := pop_less n (by omega) hn
      refine evT (by omega) ?_
      rw [iand_less n (by omega) hn, wrap_in (x := c + 1) (by omega) (by omega)]
      exact evE (by omega) (ih (n &&& (n - 1)) (c + 1) (by omega) (Nat.and_lt_two_pow n (by omega)) (by omega) (by omega))
theorem ones_eq (x : Int) (h0 : 0 ≤ x) (h1 : x < 4611686018427387904) : Ev (fun k => spec_l07Ones.f k x) (popI x) := by
  obtain ⟨n, rfl⟩ := Int.eq_ofNat_of_zero_le h0
  unfold spec_l07Ones.f popI
  exact evE (by rw [Int.toNat_natCast]; omega) (ones_loop (pop n) n 0 rfl (by have : (2 : Nat) ^ 62 = 4611686018427387904 := (by decide); omega) (by omega) (by have := pop_range n; omega))
end Go.Proofs.Ytjeiifiacjhfoaa.B
