/-
  Sets of nodes and lines by their bits. Boards alone, as the facts ask.
-/
import Derived.Test.YtbmkhdeeengbmaaNodes
namespace Go.Proofs.Ytbmkhdeeengbmaa.B
open Go.RowKit Go.Proofs.Ytbmkhdeeengbmaa.Q Go.Proofs.YtbmkhdeeengbmaaW.PrintWords Go.Proofs.YtbmkhdeeengbmaaW.PrintLast Go.Proofs.YtbmkhdeeengbmaaW.PrintMore

/-- All nodes of a are in b. -/
def sub (a b : Nat) : Prop := ∀ i, a.testBit i = true → b.testBit i = true
theorem and_sub (x s : Nat) : x &&& s = x ↔ sub x s := by
  constructor
  · intro h i hi
    have := congrArg (fun z => z.testBit i) h
    simp only [Nat.testBit_and, hi, Bool.true_and] at this
    exact this
  · intro h
    refine Nat.eq_of_testBit_eq (fun i => ?_)
    rw [Nat.testBit_and]
    cases c : x.testBit i with
    | false => rfl
    | true => rw [h i c]; rfl
theorem fillF_zero (L : List Int) (s : Int) (h1 : ∀ j : Int, 0 ≤ j → j < L.length → 1 ≤ rd L j) (d : Nat) : ∀ i : Int, 0 ≤ i → (L.length : Int) = i + d → (fillF L s d i = 0 ↔ ∀ j : Int, i ≤ j → j < L.length → Go.bits .and .i64 (rd L j) s ≠ rd L j) := by
  induction d with
  | zero =>
    intro i h0 hl
    simp only [fillF, true_iff]
    intro j hj hj2
    omega
  | succ d ih =>
    intro i h0 hl
    simp only [fillF]
    by_cases c : Go.bits .and .i64 (rd L i) s = rd L i
    · rw [if_pos c]
      have := h1 i h0 (by omega)
      constructor
      · intro e; omega
      · intro e; exact absurd c (e i (Int.le_refl _) (by omega))
    · rw [if_neg c, ih (i + 1) (by omega) (by omega)]
      constructor
      · intro e j hj hj2
        rcases Int.lt_or_le i j with q | q
        · exact e j (by omega) hj2
        · have : j = i := by omega
          rw [this]
          exact c
      · intro e j hj hj2
        exact e j (by omega) hj2
section
variable {n : Int} {L : List Int} (hb : boardB n L = true)
include hb
/-- A line, as a set of nodes. -/
theorem line_nat (j : Int) (h0 : 0 ≤ j) (h1 : j < L.length) : ∃ x : Nat, rd L j = (x : Int) ∧ 1 ≤ x ∧ x < 2 ^ n.toNat ∧ x < 2 ^ 62 := by
  obtain ⟨b1, b2, b3⟩ := (boardB_iff n L).1 hb
  obtain ⟨⟨g1, g2⟩, _⟩ := b3 j h0 h1
  obtain ⟨_, _, f3, _, _⟩ := full_shl n b1
  have k62 : (2 : Nat) ^ 62 = 4611686018427387904 := by decide
  have := Nat.one_le_two_pow (n := n.toNat)
  unfold full at g2 f3
  exact ⟨(rd L j).toNat, by omega, by omega, by omega, by omega⟩
theorem fl_iff (s : Nat) (hs : s < 65536) : fl L s = true ↔ ∃ x : Nat, (∃ j : Int, (0 ≤ j ∧ j < L.length) ∧ rd L j = (x : Int)) ∧ sub x s := by
  have k62 : (2 : Nat) ^ 62 = 4611686018427387904 := by decide
  have hz := fillF_zero L (s : Int) (fun j h0 h1 => by obtain ⟨x, e, h, _⟩ := line_nat hb j h0 h1; rw [e]; omega) L.length 0 (by omega) (by omega)
  unfold fl
  constructor
  · intro h
    have hn : ¬ fillF L (s : Int) L.length 0 = 0 := by simpa using h
    rw [hz] at hn
    by_cases e : ∃ x : Nat, (∃ j : Int, (0 ≤ j ∧ j < L.length) ∧ rd L j = (x : Int)) ∧ sub x s
    · exact e
    · exfalso
      refine hn (fun j h0 h1 hh => e ?_)
      obtain ⟨x, hx, h2, h3, h4⟩ := line_nat hb j h0 h1
      refine ⟨x, ⟨j, ⟨h0, h1⟩, hx⟩, (and_sub x s).1 ?_⟩
      rw [hx, and_nat x s h4 (by omega)] at hh
      exact_mod_cast hh
  · rintro ⟨x, ⟨j, ⟨h0, h1⟩, hx⟩, hs2⟩
    have hn : ¬ fillF L (s : Int) L.length 0 = 0 := by
      rw [hz]
      intro h
      refine h j h0 h1 ?_
      obtain ⟨y, hy, h2, h3, h4⟩ := line_nat hb j h0 h1
      have : x = y := by have := hx.symm.trans hy; exact_mod_cast this
      subst this
      rw [hx, and_nat x s h4 (by omega), (and_sub x s).2 hs2]
    simpa using hn
theorem fl_sub {s s' : Nat} (hs : s < 65536) (hs' : s' < 65536) (h : sub s s') (hf : fl L s = true) : fl L s' = true := by
  obtain ⟨x, hx, h2⟩ := (fl_iff hb s hs).1 hf
  exact (fl_iff hb s' hs').2 ⟨x, hx, fun i hi => h i (h2 i hi)⟩
end
theorem bit_put (a : Nat) (p : Int) (i : Nat) : (put a p).testBit i = (a.testBit i || decide (p.toNat = i)) := or_bit a p.toNat i
theorem sub_put (a : Nat) (p : Int) : sub a (put a p) := fun i hi => by rw [bit_put, hi]; rfl
theorem put_sub {a b : Nat} {p : Int} (h : sub a b) (hp : b.testBit p.toNat = true) : sub (put a p) b := fun i hi => by
  rw [bit_put] at hi
  rcases Bool.or_eq_true_iff.1 hi with c | c
  · exact h i c
  · have := of_decide_eq_true c
    rw [← this]
    exact hp
theorem put_put {a b : Nat} (p : Int) (h : sub a b) : sub (put a p) (put b p) := fun i hi => by
  rw [bit_put] at hi ⊢
  rcases Bool.or_eq_true_iff.1 hi with c | c
  · rw [h i c]; rfl
  · rw [c, Bool.or_true]
theorem free_bits {n : Int} {a b : Nat} {p : Int} (h : p ∈ freeN n a b) : (0 ≤ p ∧ p.toNat < n.toNat) ∧ a.testBit p.toNat = false ∧ b.testBit p.toNat = false := by
  obtain ⟨h0, h1, h2⟩ := (mem_freeN p).1 h
  exact ⟨⟨h0, by omega⟩, (dg_zero _ _ _).1 h2⟩
theorem free_mk {n : Int} {a b : Nat} {i : Nat} (h : i < n.toNat) (h1 : a.testBit i = false) (h2 : b.testBit i = false) : (i : Int) ∈ freeN n a b := (mem_freeN _).2 ⟨by omega, by omega, by rw [Int.toNat_natCast]; exact (dg_zero _ _ _).2 ⟨h1, h2⟩⟩
theorem full_bits {n : Int} {a b : Nat} (h : freeN n a b = []) {i : Nat} (hi : i < n.toNat) : a.testBit i = true ∨ b.testBit i = true := by
  cases h1 : a.testBit i with
  | true => exact .inl rfl
  | false =>
    cases h2 : b.testBit i with
    | true => exact .inr rfl
    | false => have := free_mk hi h1 h2; rw [h] at this; cases this
end Go.Proofs.Ytbmkhdeeengbmaa.B
