/-
  Powers of two as shifts, and the bit operations on natural numbers. No condition beyond those that are written.
-/
import Derived.Test.YtelfllbjcpndfaaHof
namespace Go.Proofs.Ytelfllbjcpndfaa.B
open Go.RowKit Go.Proofs.Ytelfllbjcpndfaa.Q Go.Proofs.YtelfllbjcpndfaaW.PrintWords Go.Proofs.YtelfllbjcpndfaaW.PrintLast Go.Proofs.YtelfllbjcpndfaaW.PrintMore

theorem shl_one (e : Int) (h0 : 0 ≤ e) (h1 : e ≤ 24) : shl .i64 1 e = ((2 ^ e.toNat : Nat) : Int) := by
  have h : ∀ m : Fin 25, shl .i64 1 ((m.val : Nat) : Int) = ((2 ^ m.val : Nat) : Int) := by decide +kernel
  have := h ⟨e.toNat, by omega⟩
  simp only [Int.toNat_of_nonneg h0] at this
  exact this
theorem or_nat (a b : Nat) (ha : a < 2 ^ 62) (hb : b < 2 ^ 62) : Go.bits .or .i64 (a : Int) (b : Int) = ((a ||| b : Nat) : Int) :=
  (bits_nat .i64 62 (by decide) (fun n h0 h1 => by rw [show (2 : Int) ^ 62 = 4611686018427387904 by decide] at h1; rw [IntKind.wrap_i64]; omega) a b ha hb).2
theorem and_nat (a b : Nat) (ha : a < 2 ^ 62) (hb : b < 2 ^ 62) : Go.bits .and .i64 (a : Int) (b : Int) = ((a &&& b : Nat) : Int) :=
  (bits_nat .i64 62 (by decide) (fun n h0 h1 => by rw [show (2 : Int) ^ 62 = 4611686018427387904 by decide] at h1; rw [IntKind.wrap_i64]; omega) a b ha hb).1
theorem andNot_nat (a b : Nat) (ha : a < 2 ^ 62) (hb : b < 2 ^ 62) : Go.bits .andNot .i64 (a : Int) (b : Int) = ((a ^^^ (a &&& b) : Nat) : Int) := by
  have k62 : (2 : Nat) ^ 62 = 4611686018427387904 := by decide
  have k64 : (2 : Nat) ^ 64 = 18446744073709551616 := by decide
  show IntKind.i64.wrap ((BitVec.ofInt 64 (a : Int) &&& ~~~BitVec.ofInt 64 (b : Int)).toNat : Int) = _
  rw [BitVec.toNat_and, BitVec.toNat_not, BitVec.ofInt_natCast, BitVec.ofInt_natCast, BitVec.toNat_ofNat, BitVec.toNat_ofNat, Nat.mod_eq_of_lt (by omega), Nat.mod_eq_of_lt (by omega)]
  have e : a &&& (2 ^ 64 - 1 - b) = a ^^^ (a &&& b) := by
    refine Nat.eq_of_testBit_eq (fun i => ?_)
    rw [show 2 ^ 64 - 1 - b = 2 ^ 64 - (b + 1) by omega, Nat.testBit_and, Nat.testBit_two_pow_sub_succ (by omega), Nat.testBit_xor, Nat.testBit_and]
    by_cases h : i < 64
    · simp only [h, decide_true, Bool.true_and]
      cases a.testBit i <;> cases b.testBit i <;> rfl
    · have : a.testBit i = false := Nat.testBit_lt_two_pow (Nat.lt_of_lt_of_le ha (Nat.pow_le_pow_right (by decide) (by omega)))
      simp [this]
  rw [e]
  have l := Nat.xor_lt_two_pow ha (Nat.and_lt_two_pow a hb)
  rw [IntKind.wrap_i64]
  omega
theorem andNot_zero (a b : Nat) (ha : a < 2 ^ 62) (hb : b < 2 ^ 62) : Go.bits .andNot .i64 (a : Int) (b : Int) = 0 ↔ Go.bits .and .i64 (a : Int) (b : Int) = (a : Int) := by
  rw [andNot_nat a b ha hb, and_nat a b ha hb]
  constructor
  · intro h
    have h' : a ^^^ (a &&& b) = 0 := by omega
    have : a = a &&& b := by
      refine Nat.eq_of_testBit_eq (fun i => ?_)
      have z : (a ^^^ (a &&& b)).testBit i = false := by rw [h']; simp
      rw [Nat.testBit_xor] at z
      simpa using z
    omega
  · intro h
    have h' : a &&& b = a := by omega
    rw [h']
    simp
theorem pow_le (e : Int) (m : Nat) (h1 : e ≤ m) : (2 : Nat) ^ e.toNat ≤ 2 ^ m := Nat.pow_le_pow_right (by decide) (by omega)
theorem pow_pos' (e : Int) : 1 ≤ (2 : Nat) ^ e.toNat := Nat.one_le_two_pow
end Go.Proofs.Ytelfllbjcpndfaa.B
