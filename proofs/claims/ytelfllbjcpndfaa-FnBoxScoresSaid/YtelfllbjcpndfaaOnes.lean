/-
  math/bits.OnesCount64 counts ones: proved for numbers below 2^24. And x & (x - 1) takes one of them away.
-/
import Derived.Test.YtelfllbjcpndfaaQ1
import Derived.Test.YtelfllbjcpndfaaChooseLaws
import Derived.Test.YtelfllbjcpndfaaHof
namespace Go.Proofs.Ytelfllbjcpndfaa.B
open Go.RowKit Go.Proofs.Ytelfllbjcpndfaa.Q Go.Proofs.YtelfllbjcpndfaaW.PrintWords Go.Proofs.YtelfllbjcpndfaaW.PrintLast Go.Proofs.YtelfllbjcpndfaaW.PrintMore

def popF : Nat → Nat → Nat
  | 0, _ => 0
  | d + 1, n => n % 2 + popF d (n / 2)
/-- The number of ones. -/
def pop (n : Nat) : Nat := popF 64 n
theorem popF_zero (d : Nat) : popF d 0 = 0 := by
  induction d with
  | zero => rfl
  | succ d ih => simp [popF, ih]
theorem popF_le (d : Nat) : ∀ n, popF d n ≤ d := by
  induction d with
  | zero => intro n; simp [popF]
  | succ d ih => intro n; have := ih (n / 2); simp only [popF]; omega
theorem popF_add (e : Nat) : ∀ (d n : Nat), popF (d + e) n = popF d (n % 2 ^ d) + popF e (n / 2 ^ d) := by
  intro d
  induction d with
  | zero => intro n; simp [popF]
  | succ d ih =>
    intro n
    rw [show d + 1 + e = (d + e) + 1 by omega]
    simp only [popF]
    rw [ih, Nat.pow_succ]
    have h1 : n % (2 ^ d * 2) % 2 = n % 2 := Nat.mod_mod_of_dvd n (Nat.dvd_mul_left 2 (2 ^ d))
    have h2 : n % (2 ^ d * 2) / 2 = n / 2 % 2 ^ d := by rw [Nat.mul_comm, Nat.mod_mul_right_div_self]
    have h3 : n / 2 / 2 ^ d = n / (2 ^ d * 2) := by rw [Nat.div_div_eq_div_mul, Nat.mul_comm]
    rw [h1, h2, h3]
    omega
theorem popF_more (d e n : Nat) (h : n < 2 ^ d) : popF (d + e) n = popF d n := by
  rw [popF_add, Nat.mod_eq_of_lt h, Nat.div_eq_of_lt h, popF_zero, Nat.add_zero]
theorem pop_split (a b c : Nat) (ha : a < 256) (hb : b < 256) (hc : c < 256) : pop (a + 256 * (b + 256 * c)) = popF 8 a + (popF 8 b + popF 8 c) := by
  have h1 : pop (a + 256 * (b + 256 * c)) = popF 24 (a + 256 * (b + 256 * c)) := popF_more 24 40 _ (by rw [show 2 ^ 24 = 16777216 by rfl]; omega)
  rw [h1, show (24 : Nat) = 8 + (8 + 8) from rfl, popF_add, popF_add, show 2 ^ 8 = 256 by rfl, show (a + 256 * (b + 256 * c)) % 256 = a by omega, show (a + 256 * (b + 256 * c)) / 256 = b + 256 * c by omega, show (b + 256 * c) % 256 = b by omega, show (b + 256 * c) / 256 = c by omega]
theorem and_split (a h m M : Nat) (ha : a < 256) (hm : m < 256) : (a + 256 * h) &&& (m + 256 * M) = (a &&& m) + 256 * (h &&& M) := by
  have h0 := Nat.mod_add_div ((a + 256 * h) &&& (m + 256 * M)) 256
  have h1 : ((a + 256 * h) &&& (m + 256 * M)) % 256 = a &&& m := by
    have := Nat.and_mod_two_pow (a := a + 256 * h) (b := m + 256 * M) (n := 8)
    rw [show 2 ^ 8 = 256 by rfl] at this
    rw [this, show (a + 256 * h) % 256 = a by omega, show (m + 256 * M) % 256 = m by omega]
  have h2 : ((a + 256 * h) &&& (m + 256 * M)) / 256 = h &&& M := by
    have := Nat.and_div_two_pow (a := a + 256 * h) (b := m + 256 * M) (n := 8)
    rw [show 2 ^ 8 = 256 by rfl] at this
    rw [this, show (a + 256 * h) / 256 = h by omega, show (m + 256 * M) / 256 = M by omega]
  rw [h1, h2] at h0
  exact h0.symm
def allTo (p : Nat → Bool) : Nat → Bool
  | 0 => true
  | d + 1 => p d && allTo p d
theorem allTo_all (p : Nat → Bool) : ∀ d, allTo p d = true → ∀ a, a < d → p a = true := by
  intro d
  induction d with
  | zero => intro _ a h; omega
  | succ d ih =>
    intro h a ha
    simp only [allTo, Bool.and_eq_true] at h
    rcases Nat.lt_or_ge a d with h1 | h1
    · exact ih h.2 a h1
    · obtain rfl : a = d := by omega
      exact h.1
def b1 (a : Nat) : Nat := (a / 2 &&& 0x55) + (a &&& 0x55)
def b2 (a : Nat) : Nat := (a / 4 &&& 0x33) + (a &&& 0x33)
def b3 (a : Nat) : Nat := (a / 16 + a) &&& 0x0f
/-- A byte after the second step: both halves at most 4. -/
def low (a : Nat) : Bool := Nat.ble a 68 && Nat.ble (a % 16) 4
theorem b_facts (a : Nat) (ha : a < 256) : b1 a < 256 ∧ b2 (b1 a) < 256 ∧ low (b2 (b1 a)) = true ∧ b3 (b2 (b1 a)) = popF 8 a := by
  have h : allTo (fun a => Nat.blt (b1 a) 256 && (Nat.blt (b2 (b1 a)) 256 && (low (b2 (b1 a)) && Nat.beq (b3 (b2 (b1 a))) (popF 8 a)))) 256 = true := by decide +kernel
  have := allTo_all _ _ h a ha
  simp only [Bool.and_eq_true, Nat.blt_eq] at this
  exact ⟨this.1, this.2.1, this.2.2.1, Nat.eq_of_beq_eq_true this.2.2.2⟩
theorem d1 (a c : Nat) (ha : a < 256) (hc : c < 2) : (a / 2 + 128 * c) &&& 0x55 = a / 2 &&& 0x55 := by
  have h : allTo (fun x => Nat.beq ((x / 2 / 2 + 128 * (x % 2)) &&& 0x55) (x / 2 / 2 &&& 0x55)) 512 = true := by decide +kernel
  have := allTo_all _ _ h (2 * a + c) (by omega)
  rw [show (2 * a + c) / 2 = a by omega, show (2 * a + c) % 2 = c by omega] at this
  exact Nat.eq_of_beq_eq_true this
theorem d2 (a c : Nat) (ha : a < 256) (hc : c < 4) : (a / 4 + 64 * c) &&& 0x33 = a / 4 &&& 0x33 := by
  have h : allTo (fun x => Nat.beq ((x / 4 / 4 + 64 * (x % 4)) &&& 0x33) (x / 4 / 4 &&& 0x33)) 1024 = true := by decide +kernel
  have := allTo_all _ _ h (4 * a + c) (by omega)
  rw [show (4 * a + c) / 4 = a by omega, show (4 * a + c) % 4 = c by omega] at this
  exact Nat.eq_of_beq_eq_true this
theorem d3 (a c : Nat) : (a / 16 + 16 * c + a) &&& 0x0f = (a / 16 + a) &&& 0x0f := by
  rw [show (0x0f : Nat) = 2 ^ 4 - 1 by rfl, Nat.and_two_pow_sub_one_eq_mod, Nat.and_two_pow_sub_one_eq_mod, show 2 ^ 4 = 16 by rfl]
  omega
def s1 (M n : Nat) : Nat := (n / 2 &&& M) + (n &&& M)
def s2 (M n : Nat) : Nat := (n / 4 &&& M) + (n &&& M)
def s3 (M n : Nat) : Nat := (n / 16 + n) &&& M
theorem s1_split (a h M : Nat) (ha : a < 256) : s1 (0x55 + 256 * M) (a + 256 * h) = b1 a + 256 * s1 M h := by
  unfold s1 b1
  rw [show (a + 256 * h) / 2 = (a / 2 + 128 * (h % 2)) + 256 * (h / 2) by omega, and_split _ _ _ _ (by omega) (by omega), and_split _ _ _ _ ha (by omega), d1 a _ ha (by omega)]
  omega
theorem s2_split (a h M : Nat) (ha : a < 256) : s2 (0x33 + 256 * M) (a + 256 * h) = b2 a + 256 * s2 M h := by
  unfold s2 b2
  rw [show (a + 256 * h) / 4 = (a / 4 + 64 * (h % 4)) + 256 * (h / 4) by omega, and_split _ _ _ _ (by omega) (by omega), and_split _ _ _ _ ha (by omega), d2 a _ ha (by omega)]
  omega
theorem s3_split (a h M : Nat) (ha : low a = true) (hh : h % 16 ≤ 4) : s3 (0x0f + 256 * M) (a + 256 * h) = b3 a + 256 * s3 M h := by
  simp only [low, Bool.and_eq_true, Nat.ble_eq] at ha
  unfold s3 b3
  rw [show (a + 256 * h) / 16 + (a + 256 * h) = (a / 16 + 16 * (h % 16) + a) + 256 * (h / 16 + h) by omega, and_split _ _ _ _ (by omega) (by omega), d3 a _]
theorem low_mod (a : Nat) (ha : low a = true) : a % 16 ≤ 4 := by
  simp only [low, Bool.and_eq_true, Nat.ble_eq] at ha
  exact ha.2
/-- The three steps over three bytes. -/
theorem steps (a b c : Nat) (ha : a < 256) (hb : b < 256) (hc : c < 256) : s3 1085102592571150095 (s2 3689348814741910323 (s1 6148914691236517205 (a + 256 * (b + 256 * c)))) = popF 8 a + 256 * (popF 8 b + 256 * popF 8 c) ∧
    s1 6148914691236517205 (a + 256 * (b + 256 * c)) = b1 a + 256 * (b1 b + 256 * b1 c) ∧ s2 3689348814741910323 (b1 a + 256 * (b1 b + 256 * b1 c)) = b2 (b1 a) + 256 * (b2 (b1 b) + 256 * b2 (b1 c)) := by
  obtain ⟨a1, a2, a3, a4⟩ := b_facts a ha
  obtain ⟨c1, c2, c3, c4⟩ := b_facts b hb
  obtain ⟨e1, e2, e3, e4⟩ := b_facts c hc
  have z1 : ∀ M, s1 M 0 = 0 := fun M => by simp [s1]
  have z2 : ∀ M, s2 M 0 = 0 := fun M => by simp [s2]
  have z3 : ∀ M, s3 M 0 = 0 := fun M => by simp [s3]
  have g1 : s1 6148914691236517205 (a + 256 * (b + 256 * c)) = b1 a + 256 * (b1 b + 256 * b1 c) := by
    rw [show (6148914691236517205 : Nat) = 0x55 + 256 * (0x55 + 256 * (0x55 + 256 * 366503875925)) by rfl, s1_split _ _ _ ha, s1_split _ _ _ hb, show c = c + 256 * 0 by rfl, s1_split _ _ _ (by omega), z1]
    rfl
  have g2 : s2 3689348814741910323 (b1 a + 256 * (b1 b + 256 * b1 c)) = b2 (b1 a) + 256 * (b2 (b1 b) + 256 * b2 (b1 c)) := by
    have k : s2 (0x33 + 256 * 219902325555) (b1 c) = b2 (b1 c) := by
      have := s2_split (b1 c) 0 219902325555 e1
      rw [z2] at this
      exact this
    rw [show (3689348814741910323 : Nat) = 0x33 + 256 * (0x33 + 256 * (0x33 + 256 * 219902325555)) by rfl, s2_split _ _ _ a1, s2_split _ _ _ c1, k]
  have g3 : s3 1085102592571150095 (b2 (b1 a) + 256 * (b2 (b1 b) + 256 * b2 (b1 c))) = popF 8 a + 256 * (popF 8 b + 256 * popF 8 c) := by
    have k : s3 (0x0f + 256 * 64677154575) (b2 (b1 c)) = b3 (b2 (b1 c)) := by
      have := s3_split (b2 (b1 c)) 0 64677154575 e3 (by omega)
      rw [z3] at this
      exact this
    have m1 := low_mod _ c3
    have m2 := low_mod _ e3
    rw [show (1085102592571150095 : Nat) = 0x0f + 256 * (0x0f + 256 * (0x0f + 256 * 64677154575)) by rfl, s3_split _ _ _ a3 (by omega), s3_split _ _ _ c3 m2, k, a4, c4, e4]
  exact ⟨by rw [g1, g2, g3], g1, g2⟩
theorem u64_id (n : Nat) (h : n < 2 ^ 63) : IntKind.u64.wrap (n : Int) = (n : Int) := u64_in _ (by omega) (by have : (2 : Nat) ^ 63 = 9223372036854775808 := (by decide); omega)
theorem uand (a b : Nat) (ha : a < 2 ^ 63) (hb : b < 2 ^ 63) : Go.bits .and .u64 (a : Int) (b : Int) = ((a &&& b : Nat) : Int) :=
  (bits_nat .u64 63 (by decide) (fun n h0 h1 => by rw [show (2 : Int) ^ 63 = 9223372036854775808 by decide] at h1; exact u64_in n h0 (by omega)) a b ha hb).1
theorem nd (n m : Nat) : ((n : Int) / (m : Int)) = ((n / m : Nat) : Int) := rfl
/-- bits.OnesCount64 is the number of ones. -/
theorem ones_go (n : Nat) (h : n < 16777216) : bits_OnesCount64.f (n : Int) = some (pop n : Int) := by
  obtain ⟨a, b, c, ha, hb, hc, rfl⟩ : ∃ a b c : Nat, a < 256 ∧ b < 256 ∧ c < 256 ∧ n = a + 256 * (b + 256 * c) := ⟨n % 256, n / 256 % 256, n / 65536, by omega, by omega, by omega, by omega⟩
  obtain ⟨g3, g1, g2⟩ := steps a b c ha hb hc
  obtain ⟨a1, a2, -, -⟩ := b_facts a ha
  obtain ⟨c1, c2, -, -⟩ := b_facts b hb
  obtain ⟨e1, e2, -, -⟩ := b_facts c hc
  have hp := pop_split a b c ha hb hc
  rw [hp]
  rw [g1, g2] at g3
  clear hp
  generalize hn : a + 256 * (b + 256 * c) = n at *
  generalize hy1 : b1 a + 256 * (b1 b + 256 * b1 c) = y1 at *
  generalize hy2 : b2 (b1 a) + 256 * (b2 (b1 b) + 256 * b2 (b1 c)) = y2 at *
  have k63 : (2 : Nat) ^ 63 = 9223372036854775808 := by decide
  have w1 : IntKind.u64.wrap (Go.bits .and .u64 ((n : Int) / 2) 6148914691236517205 + Go.bits .and .u64 (n : Int) 6148914691236517205) = (y1 : Int) := by
    have u1 := uand (n / 2) 6148914691236517205 (by omega) (by omega)
    have u2 := uand n 6148914691236517205 (by omega) (by omega)
    rw [show ((n : Int) / 2) = ((n / 2 : Nat) : Int) from rfl, show (6148914691236517205 : Int) = ((6148914691236517205 : Nat) : Int) from rfl, u1, u2, ← g1]
    exact u64_id (s1 6148914691236517205 n) (by rw [g1]; omega)
  have w2 : IntKind.u64.wrap (Go.bits .and .u64 ((y1 : Int) / 4) 3689348814741910323 + Go.bits .and .u64 (y1 : Int) 3689348814741910323) = (y2 : Int) := by
    have u1 := uand (y1 / 4) 3689348814741910323 (by omega) (by omega)
    have u2 := uand y1 3689348814741910323 (by omega) (by omega)
    rw [show ((y1 : Int) / 4) = ((y1 / 4 : Nat) : Int) from rfl, show (3689348814741910323 : Int) = ((3689348814741910323 : Nat) : Int) from rfl, u1, u2, ← g2]
    exact u64_id (s2 3689348814741910323 y1) (by rw [g2]; omega)
  have l1 := popF_le 8 a
  have l2 := popF_le 8 b
  have l3 := popF_le 8 c
  have w3 : Go.bits .and .u64 (IntKind.u64.wrap ((y2 : Int) / 16 + y2)) 1085102592571150095 = ((popF 8 a + 256 * (popF 8 b + 256 * popF 8 c) : Nat) : Int) := by
    have u0 := u64_id (y2 / 16 + y2) (by omega)
    have u1 := uand (y2 / 16 + y2) 1085102592571150095 (by omega) (by omega)
    rw [show ((y2 : Int) / 16 + y2) = ((y2 / 16 + y2 : Nat) : Int) from rfl, u0, show (1085102592571150095 : Int) = ((1085102592571150095 : Nat) : Int) from rfl, u1, ← g3]
    rfl
  unfold bits_OnesCount64.f
  simp only [w1, w2, w3]
  generalize popF 8 a = A at *
  generalize popF 8 b = B at *
  generalize popF 8 c = C at *
  have x1 : IntKind.u64.wrap (((A + 256 * (B + 256 * C) : Nat) : Int) + ((A + 256 * (B + 256 * C) : Nat) : Int) / 256) = ((A + B + 256 * (B + C) + 65536 * C : Nat) : Int) := by
    have := u64_id (A + B + 256 * (B + C) + 65536 * C) (by omega)
    rw [← this]
    congr 1
    omega
  have x2 : IntKind.u64.wrap (((A + B + 256 * (B + C) + 65536 * C : Nat) : Int) + ((A + B + 256 * (B + C) + 65536 * C : Nat) : Int) / 65536) = ((A + B + C + 256 * (B + C) + 65536 * C : Nat) : Int) := by
    have := u64_id (A + B + C + 256 * (B + C) + 65536 * C) (by omega)
    rw [← this]
    congr 1
    omega
  have x3 : IntKind.u64.wrap (((A + B + C + 256 * (B + C) + 65536 * C : Nat) : Int) + ((A + B + C + 256 * (B + C) + 65536 * C : Nat) : Int) / 4294967296) = ((A + B + C + 256 * (B + C) + 65536 * C : Nat) : Int) := by
    have := u64_id (A + B + C + 256 * (B + C) + 65536 * C) (by omega)
    rw [← this]
    congr 1
    omega
  rw [x1, x2, x3, wrap_in (by omega) (by omega)]
  have z := (bits_nat .i64 62 (by decide) (fun n h0 h1 => by rw [show (2 : Int) ^ 62 = 4611686018427387904 by decide] at h1; rw [IntKind.wrap_i64]; omega) (A + B + C + 256 * (B + C) + 65536 * C) 127 (by have : (2 : Nat) ^ 62 = 4611686018427387904 := (by decide); omega) (by decide)).1
  rw [show (127 : Int) = ((127 : Nat) : Int) from rfl, z, show (127 : Nat) = 2 ^ 7 - 1 by rfl, Nat.and_two_pow_sub_one_eq_mod, show 2 ^ 7 = 128 by rfl]
  congr 2
  omega
/-- Taking the lowest one away. -/
theorem popF_less (d : Nat) : ∀ n, 0 < n → popF d (n &&& (n - 1)) + (if n < 2 ^ d then 1 else 0) = popF d n ∨ ¬ n < 2 ^ d := by
  induction d with
  | zero => intro n hn; exact .inr (by simp; omega)
  | succ d ih =>
    intro n hn
    by_cases h : n < 2 ^ (d + 1)
    · refine .inl ?_
      rw [if_pos h]
      simp only [popF]
      have e1 : (n &&& (n - 1)) / 2 = n / 2 &&& (n - 1) / 2 := by simpa using Nat.and_div_two_pow (a := n) (b := n - 1) (n := 1)
      have e2 : (n &&& (n - 1)) % 2 = n % 2 &&& (n - 1) % 2 := by simpa using Nat.and_mod_two_pow (a := n) (b := n - 1) (n := 1)
      rw [e1, e2]
      rcases Nat.mod_two_eq_zero_or_one n with p | p
      · have q : (n - 1) / 2 = n / 2 - 1 := by omega
        rw [p, q, Nat.zero_and]
        rcases ih (n / 2) (by omega) with k | k
        · rw [if_pos (by rw [Nat.pow_succ] at h; omega)] at k
          omega
        · exact absurd (by rw [Nat.pow_succ] at h; omega) k
      · have q : (n - 1) / 2 = n / 2 := by omega
        have q2 : (n - 1) % 2 = 0 := by omega
        rw [p, q, q2, Nat.and_self]
        simp
        omega
    · exact .inr h
theorem pop_less (n : Nat) (h0 : 0 < n) (h : n < 2 ^ 62) : pop (n &&& (n - 1)) + 1 = pop n := by
  have hh : n < 2 ^ 64 := Nat.lt_trans h (by decide)
  rcases popF_less 64 n h0 with k | k
  · rw [if_pos hh] at k
    exact k
  · exact absurd hh k
theorem iand_less (n : Nat) (h0 : 0 < n) (h : n < 2 ^ 62) : Go.bits .and .i64 (n : Int) (wrap64 ((n : Int) - 1)) = ((n &&& (n - 1) : Nat) : Int) := by
  have k62 : (2 : Nat) ^ 62 = 4611686018427387904 := by decide
  rw [show wrap64 ((n : Int) - 1) = ((n - 1 : Nat) : Int) by rw [wrap_in (by omega) (by omega)]; omega]
  exact (bits_nat .i64 62 (by decide) (fun n h0 h1 => by rw [show (2 : Int) ^ 62 = 4611686018427387904 by decide] at h1; rw [IntKind.wrap_i64]; omega) n (n - 1) h (by omega)).1
theorem pop_range (n : Nat) : pop n ≤ 64 := popF_le 64 n
theorem pop_lt (d n : Nat) (hd : d ≤ 64) (h : n < 2 ^ d) : pop n ≤ d := by
  have := popF_more d (64 - d) n h
  rw [show d + (64 - d) = 64 by omega] at this
  unfold pop
  rw [this]
  exact popF_le d n
end Go.Proofs.Ytelfllbjcpndfaa.B
