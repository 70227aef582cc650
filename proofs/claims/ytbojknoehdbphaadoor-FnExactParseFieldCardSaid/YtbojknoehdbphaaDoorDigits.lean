/-
  Plain: two sets of bits as a row of digits 0, 1, 2: how a digit turns when a bit is laid, how many digits are nought, and the number with these digits in base 3. No Go in it.
-/
import Init
namespace Go.Proofs.YtbojknoehdbphaaDoor.B

/-- The digit of two sets at a place. -/
def dg (a b i : Nat) : Nat := (a.testBit i).toNat + 2 * (b.testBit i).toNat
theorem dg_zero (a b i : Nat) : dg a b i = 0 ↔ a.testBit i = false ∧ b.testBit i = false := by
  unfold dg
  cases a.testBit i <;> cases b.testBit i <;> simp
theorem dg_three (a b i : Nat) : dg a b i ≠ 3 ↔ ¬ (a.testBit i = true ∧ b.testBit i = true) := by
  unfold dg
  cases a.testBit i <;> cases b.testBit i <;> simp
theorem dg_inj (a b c d i : Nat) (h : dg a b i = dg c d i) : a.testBit i = c.testBit i ∧ b.testBit i = d.testBit i := by
  unfold dg at h
  cases ha : a.testBit i <;> cases hb : b.testBit i <;> cases hc : c.testBit i <;> cases hd : d.testBit i <;> simp_all
theorem or_bit (a i j : Nat) : (a ||| 2 ^ i).testBit j = (a.testBit j || decide (i = j)) := by rw [Nat.testBit_or, Nat.testBit_two_pow]
theorem dg_left (a b i j : Nat) (h : dg a b i = 0) : dg (a ||| 2 ^ i) b j = if j = i then 1 else dg a b j := by
  have h0 := (dg_zero a b i).1 h
  unfold dg
  rw [or_bit]
  by_cases e : j = i
  · subst e
    simp [h0]
  · rw [if_neg e, decide_eq_false (fun c => e c.symm), Bool.or_false]
theorem dg_right (a b i j : Nat) (h : dg a b i = 0) : dg a (b ||| 2 ^ i) j = if j = i then 2 else dg a b j := by
  have h0 := (dg_zero a b i).1 h
  unfold dg
  rw [or_bit]
  by_cases e : j = i
  · subst e
    simp [h0]
  · rw [if_neg e, decide_eq_false (fun c => e c.symm), Bool.or_false]
/-- Two sets apart, of n places. -/
def Two (n a b : Nat) : Prop := a < 2 ^ n ∧ b < 2 ^ n ∧ ∀ i, dg a b i ≠ 3
theorem or_lt (n a i : Nat) (ha : a < 2 ^ n) (hi : i < n) : a ||| 2 ^ i < 2 ^ n := Nat.or_lt_two_pow ha (Nat.pow_lt_pow_right (by decide) hi)
theorem Two.left {n a b i : Nat} (h : Two n a b) (hi : i < n) (h0 : dg a b i = 0) : Two n (a ||| 2 ^ i) b :=
  ⟨or_lt n a i h.1 hi, h.2.1, fun j => by rw [dg_left a b i j h0]; split; decide; exact h.2.2 j⟩
theorem Two.right {n a b i : Nat} (h : Two n a b) (hi : i < n) (h0 : dg a b i = 0) : Two n a (b ||| 2 ^ i) :=
  ⟨h.1, or_lt n b i h.2.1 hi, fun j => by rw [dg_right a b i j h0]; split; decide; exact h.2.2 j⟩
theorem dg_le (a b i : Nat) : dg a b i ≤ 3 := by
  unfold dg
  cases a.testBit i <;> cases b.testBit i <;> simp
theorem bit_ge (n a i : Nat) (ha : a < 2 ^ n) (hi : n ≤ i) : a.testBit i = false := Nat.testBit_lt_two_pow (Nat.lt_of_lt_of_le ha (Nat.pow_le_pow_right (by decide) hi))
theorem two_of_and (n a b : Nat) (ha : a < 2 ^ n) (hb : b < 2 ^ n) (h : a &&& b = 0) : Two n a b := by
  refine ⟨ha, hb, fun i => (dg_three a b i).2 (fun c => ?_)⟩
  have e : (a &&& b).testBit i = false := by rw [h]; exact Nat.zero_testBit i
  rw [Nat.testBit_and, c.1, c.2] at e
  cases e

/-- How many of the first n digits are nought. -/
def fr (a b : Nat) : Nat → Nat
  | 0 => 0
  | n + 1 => fr a b n + if dg a b n = 0 then 1 else 0
theorem fr_le (a b : Nat) : ∀ n, fr a b n ≤ n
  | 0 => Nat.le_refl _
  | n + 1 => by
    have := fr_le a b n
    unfold fr
    split <;> omega
theorem fr_turn (a b a' b' i v : Nat) (hv : v ≠ 0) (h0 : dg a b i = 0) (h : ∀ j, dg a' b' j = if j = i then v else dg a b j) : ∀ n, fr a' b' n + (if i < n then 1 else 0) = fr a b n
  | 0 => by simp [fr]
  | n + 1 => by
    have ih := fr_turn a b a' b' i v hv h0 h n
    unfold fr
    rw [h n]
    by_cases e : n = i
    · subst e
      rw [if_pos rfl, if_neg hv, if_pos (show n < n + 1 by omega), h0, if_pos rfl]
      rw [if_neg (by omega)] at ih
      omega
    · rw [if_neg e]
      by_cases c : i < n
      · rw [if_pos c] at ih
        rw [if_pos (show i < n + 1 by omega)]
        omega
      · rw [if_neg c] at ih
        rw [if_neg (show ¬ i < n + 1 by omega)]
        omega
theorem fr_left (n a b i : Nat) (hi : i < n) (h0 : dg a b i = 0) : fr (a ||| 2 ^ i) b n + 1 = fr a b n := by
  have := fr_turn a b (a ||| 2 ^ i) b i 1 (by decide) h0 (fun j => dg_left a b i j h0) n
  rw [if_pos hi] at this
  exact this
theorem fr_right (n a b i : Nat) (hi : i < n) (h0 : dg a b i = 0) : fr a (b ||| 2 ^ i) n + 1 = fr a b n := by
  have := fr_turn a b a (b ||| 2 ^ i) i 2 (by decide) h0 (fun j => dg_right a b i j h0) n
  rw [if_pos hi] at this
  exact this
theorem fr_pos (n a b i : Nat) (hi : i < n) (h0 : dg a b i = 0) : 0 < fr a b n := by
  have := fr_left n a b i hi h0
  omega
theorem fr_none (a b : Nat) : ∀ n, fr a b n = 0 → ∀ i, i < n → dg a b i ≠ 0
  | 0, _, i, hi => by omega
  | n + 1, h, i, hi => by
    unfold fr at h
    by_cases e : i = n
    · subst e
      intro c
      rw [if_pos c] at h
      omega
    · exact fr_none a b n (by omega) i (by omega)

/-- The number with the first n digits, the first one the highest. -/
def pl3 (a b : Nat) : Nat → Nat
  | 0 => 0
  | n + 1 => pl3 a b n * 3 + dg a b n
theorem pl3_lt (a b : Nat) (h : ∀ i, dg a b i ≠ 3) : ∀ n, pl3 a b n < 3 ^ n
  | 0 => by simp [pl3]
  | n + 1 => by
    have := pl3_lt a b h n
    have := h n
    have := dg_le a b n
    unfold pl3
    rw [Nat.pow_succ]
    omega
theorem pl3_digits (a b c d : Nat) (h : ∀ i, dg a b i ≠ 3) (k : ∀ i, dg c d i ≠ 3) : ∀ n, pl3 a b n = pl3 c d n → ∀ i, i < n → dg a b i = dg c d i
  | 0, _, i, hi => by omega
  | n + 1, e, i, hi => by
    have h1 := h n
    have h2 := dg_le a b n
    have k1 := k n
    have k2 := dg_le c d n
    unfold pl3 at e
    by_cases c0 : i = n
    · subst c0
      omega
    · exact pl3_digits a b c d h k n (by omega) i (by omega)
theorem pl3_inj {n a b c d : Nat} (h : Two n a b) (k : Two n c d) (e : pl3 a b n = pl3 c d n) : a = c ∧ b = d := by
  have hd := pl3_digits a b c d h.2.2 k.2.2 n e
  refine ⟨Nat.eq_of_testBit_eq (fun i => ?_), Nat.eq_of_testBit_eq (fun i => ?_)⟩
  · by_cases hi : i < n
    · exact (dg_inj a b c d i (hd i hi)).1
    · rw [bit_ge n a i h.1 (by omega), bit_ge n c i k.1 (by omega)]
  · by_cases hi : i < n
    · exact (dg_inj a b c d i (hd i hi)).2
    · rw [bit_ge n b i h.2.1 (by omega), bit_ge n d i k.2.1 (by omega)]

/-- A row of n numbers as a store of right answers: at each place that a state has stands nought or the state's number. -/
def Tab {σ : Type} (ok : σ → Prop) (place : σ → Nat) (val : σ → Int) (n : Nat) (t : List Int) : Prop := t.length = n ∧ ∀ s, ok s → place s < n ∧ (t.getD (place s) 0 = 0 ∨ t.getD (place s) 0 = val s)
theorem Tab.set {σ : Type} {ok : σ → Prop} {place : σ → Nat} {val : σ → Int} {n : Nat} {t : List Int} (h : Tab ok place val n t) (hinj : ∀ s s', ok s → ok s' → place s = place s' → s = s') (s : σ) (hs : ok s) : Tab ok place val n (t.set (place s) (val s)) := by
  refine ⟨by rw [List.length_set]; exact h.1, fun s' hs' => ⟨(h.2 s' hs').1, ?_⟩⟩
  by_cases e : place s = place s'
  · obtain rfl := hinj s s' hs hs' e
    have := (h.2 s hs).1
    right
    rw [List.getD_eq_getElem?_getD, List.getElem?_set_self (by rw [h.1]; exact this)]
    rfl
  · have := (h.2 s' hs').2
    rw [List.getD_eq_getElem?_getD, List.getElem?_set_ne e, ← List.getD_eq_getElem?_getD]
    exact this
theorem Tab.new {σ : Type} {ok : σ → Prop} {place : σ → Nat} {val : σ → Int} {n : Nat} (h : ∀ s, ok s → place s < n) : Tab ok place val n (List.replicate n 0) := by
  refine ⟨by simp, fun s hs => ⟨h s hs, .inl ?_⟩⟩
  rw [List.getD_eq_getElem?_getD, List.getElem?_replicate_of_lt (h s hs)]
  rfl
end Go.Proofs.YtbojknoehdbphaaDoor.B
