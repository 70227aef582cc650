/-
  Who wins a field: the plain recursion, in the words of digits; the program's store-free recursion comes to it. Fields alone, as the facts ask.
-/
import Derived.Test.YtimoadhkkbedhaaPointsSame
import Derived.Test.YtimoadhkkbedhaaHof
import Derived.Test.YtimoadhkkbedhaaWinsCode
namespace Go.Proofs.Ytimoadhkkbedhaa.B
open Go.RowKit Go.Proofs.Ytimoadhkkbedhaa.Q Go.Proofs.YtimoadhkkbedhaaW.PrintWords Go.Proofs.YtimoadhkkbedhaaW.PrintLast Go.Proofs.YtimoadhkkbedhaaW.PrintMore

theorem dig_bit (a : Nat) (i : Int) (ha : a < 2 ^ 62) (h0 : 0 ≤ i) (h1 : i ≤ 60) : Go.bits .and .i64 (shr .i64 (a : Int) i) 1 = (((a.testBit i.toNat).toNat : Nat) : Int) := by
  have k62 : (2 : Nat) ^ 62 = 4611686018427387904 := by decide
  rw [dig_div _ i (by omega) (by omega) h0 h1, Int.toNat_natCast, Nat.testBit_eq_decide_div_mod_eq]
  have := Nat.mod_two_eq_zero_or_one (a / 2 ^ i.toNat)
  rcases this with e | e <;> simp [e]
theorem col_dg (a b : Nat) (i : Int) (ha : a < 2 ^ 62) (hb : b < 2 ^ 62) (h0 : 0 ≤ i) (h1 : i ≤ 60) : col a b i = ((dg a b i.toNat : Nat) : Int) := by
  unfold col dg
  rw [dig_bit a i ha h0 h1, dig_bit b i hb h0 h1]
  cases a.testBit i.toNat <;> cases b.testBit i.toNat <;> decide +kernel
def mvA (p : Int) (a : Nat) (i : Int) : Nat := if p = 0 then a ||| 2 ^ i.toNat else a
def mvC (p : Int) (b : Nat) (i : Int) : Nat := if p = 0 then b else b ||| 2 ^ i.toNat
theorem pow62 (n i : Nat) (hi : i ≤ n) (hn : n ≤ 61) : 2 ^ i < 2 ^ 62 := Nat.pow_lt_pow_right (by decide) (by omega)
theorem mvR_nat (a : Nat) (p i : Int) (ha : a < 2 ^ 62) (h0 : 0 ≤ i) (h1 : i ≤ 24) : mvR a p i = ((mvA p a i : Nat) : Int) := by
  unfold mvR mvA
  rw [shl_one i h0 h1, or_nat a _ ha (pow62 24 i.toNat (by omega) (by decide))]
  split <;> rfl
theorem mvB_nat (b : Nat) (p i : Int) (hb : b < 2 ^ 62) (h0 : 0 ≤ i) (h1 : i ≤ 24) : mvB b p i = ((mvC p b i : Nat) : Int) := by
  unfold mvB mvC
  rw [shl_one i h0 h1, or_nat b _ hb (pow62 24 i.toNat (by omega) (by decide))]
  split <;> rfl
theorem Two.move {n a b : Nat} (h : Two n a b) (p i : Int) (hi : i.toNat < n) (h0 : dg a b i.toNat = 0) : Two n (mvA p a i) (mvC p b i) ∧ fr (mvA p a i) (mvC p b i) n + 1 = fr a b n := by
  unfold mvA mvC
  by_cases c : p = 0
  · rw [if_pos c, if_pos c]
    exact ⟨h.left hi h0, fr_left n a b _ hi h0⟩
  · rw [if_neg c, if_neg c]
    exact ⟨h.right hi h0, fr_right n a b _ hi h0⟩
theorem Two.small {n a b : Nat} (h : Two n a b) (hn : n ≤ 61) : a < 2 ^ 62 ∧ b < 2 ^ 62 := ⟨Nat.lt_trans h.1 (pow62 61 n hn (by decide)), Nat.lt_trans h.2.1 (pow62 61 n hn (by decide))⟩
theorem ptsL_free (P L g p : Int) (a b : Nat) (hP : 1 ≤ P ∧ P ≤ 8) (h : Two P.toNat a b) (i : Int) (hi : i ∈ ptsL P L a b g p) : 0 ≤ i ∧ i < P ∧ i.toNat < P.toNat ∧ dg a b i.toNat = 0 := by
  unfold ptsL at hi
  obtain ⟨h1, h2⟩ := List.mem_filter.1 hi
  have h3 := (mem_seg _ _ _).1 h1
  have hs := h.small (by omega)
  unfold okP at h2
  rw [col_dg a b i hs.1 hs.2 (by omega) (by omega)] at h2
  simp only [Bool.and_eq_true, beq_iff_eq] at h2
  exact ⟨by omega, by omega, by omega, by omega⟩

/-- Does who moves win, behind at most d moves? -/
def winsB (P L g : Int) : Nat → Nat → Nat → Int → Bool
  | 0, _, _, _ => false
  | d + 1, a, b, p => (ptsL P L a b g p).any fun i => !winsB P L g d (mvA p a i) (mvC p b i) (1 - p)
/-- Does who moves win? -/
def W (P L g : Int) (a b : Nat) (p : Int) : Bool := winsB P L g (fr a b P.toNat + 1) a b p
theorem any_congr {l : List Int} {p q : Int → Bool} (h : ∀ i, i ∈ l → p i = q i) : l.any p = l.any q := by
  induction l with
  | nil => rfl
  | cons x l ih => simp only [List.any_cons, h x List.mem_cons_self, ih (fun i hi => h i (List.mem_cons_of_mem _ hi))]
theorem W_eq (P L g p : Int) (a b : Nat) (hP : 1 ≤ P ∧ P ≤ 8) (h : Two P.toNat a b) : W P L g a b p = (ptsL P L a b g p).any fun i => !W P L g (mvA p a i) (mvC p b i) (1 - p) := by
  unfold W
  rw [winsB]
  refine any_congr (fun i hi => ?_)
  obtain ⟨_, _, h2, h3⟩ := ptsL_free P L g p a b hP h i hi
  rw [(h.move p i h2 h3).2]

theorem wf_small (x : Int) (h0 : 0 ≤ x) (h1 : x < 4611686018427387904) : (Lit.int .i64 x).wf = true := WalkArith.wf_i64 (by omega)
theorem wins_impl (P L g : Int) (hP : 1 ≤ P ∧ P ≤ 8) (hL : (Lit.int .i64 L).wf = true) (d : Nat) : ∀ (a b : Nat) (p : Int), (p = 0 ∨ p = 1) → Two P.toNat a b → fr a b P.toNat < d → Ev (fun k => winsF k g P L d a b p) (W P L g a b p) := by
  induction d with
  | zero => intro a b p hp h hd; omega
  | succ d ih =>
    intro a b p hp h hd
    have k62 : (2 : Nat) ^ 62 = 4611686018427387904 := by decide
    have hs := h.small (by omega)
    rw [W_eq P L g p a b hP h]
    simp only [winsF]
    have hp8 := Nat.pow_le_pow_right (show 0 < 2 by decide) (show P.toNat ≤ 8 by omega)
    have h1 := h.1
    have h2 := h.2.1
    refine evT ⟨wf_small P (by omega) (by omega), hL, by omega, by omega, by omega⟩ ?_
    refine evB (points_impl P L a b g p hP) (evT (by have := ptsL_len P L a b g p hP.2; omega) ?_)
    refine anyF_ev _ _ _ (fun i hi => ?_)
    obtain ⟨h0, h1, h2, h3⟩ := ptsL_free P L g p a b hP h i hi
    obtain ⟨m1, m2⟩ := h.move p i h2 h3
    rw [coloured_impl P L a b p i h0, mvR_nat a p i hs.1 h0 (by omega), mvB_nat b p i hs.2 h0 (by omega), wrap_in (x := 1 - p) (by omega) (by omega)]
    exact evG rfl (evB (ih (mvA p a i) (mvC p b i) (1 - p) (by omega) m1 (by omega)) (evS _))
end Go.Proofs.Ytimoadhkkbedhaa.B
