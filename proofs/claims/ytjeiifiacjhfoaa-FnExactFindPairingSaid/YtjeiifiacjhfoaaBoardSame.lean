/-
  Boards: the program's and the reference's test come to one plain test, whatever the arguments are.
-/
import Derived.Test.YtjeiifiacjhfoaaQ1
import Derived.Test.YtjeiifiacjhfoaaInEq
import Derived.Test.YtjeiifiacjhfoaaShl
import Derived.Test.YtjeiifiacjhfoaaChooseLaws
namespace Go.Proofs.Ytjeiifiacjhfoaa.B
open Go.RowKit Go.Proofs.Ytjeiifiacjhfoaa.Q Go.Proofs.YtjeiifiacjhfoaaW.PrintWords Go.Proofs.YtjeiifiacjhfoaaW.PrintLast Go.Proofs.YtjeiifiacjhfoaaW.PrintMore

def stepOk (lo hi : Int) (L : List Int) (i : Int) : Bool := decide (lo ≤ rd L i ∧ rd L i ≤ hi) && (decide (i = 0) || decide (rd L (i - 1) < rd L i))
def risF (lo hi : Int) (L : List Int) : Nat → Int → Bool
  | 0, _ => true
  | d + 1, i => stepOk lo hi L i && risF lo hi L d (i + 1)
/-- The set of all nodes. -/
def full (n : Int) : Int := ((2 ^ n.toNat : Nat) : Int) - 1
/-- A board, plainly. -/
def boardB (n : Int) (L : List Int) : Bool := (decide (1 ≤ n ∧ n ≤ 16) && decide (L.length ≤ 100)) && risF 1 (full n) L L.length 0
theorem full_shl (n : Int) (h : 1 ≤ n ∧ n ≤ 16) : wrap64 (shl .i64 1 n - 1) = full n ∧ 1 ≤ full n ∧ full n ≤ 65535 ∧ IntKind.u64.wrap n = n ∧ shl .i64 1 n = full n + 1 := by
  have h2 := pow_le n 16 (by omega)
  have h3 := Nat.pow_le_pow_right (n := 2) (by decide) (show 1 ≤ n.toNat by omega)
  have h4 := shl_one n (by omega) (by omega)
  unfold full
  rw [h4]
  generalize 2 ^ n.toNat = m at *
  refine ⟨wrap_in (by omega) (by omega), by omega, by omega, u64_in _ (by omega) (by omega), by omega⟩
theorem risF_all (lo hi : Int) (L : List Int) (d : Nat) : ∀ i, risF lo hi L d i = true ↔ ∀ j, i ≤ j → j < i + d → stepOk lo hi L j = true := by
  induction d with
  | zero =>
    intro i
    refine ⟨fun _ j h0 h1 => ?_, fun _ => rfl⟩
    omega
  | succ d ih =>
    intro i
    simp only [risF, Bool.and_eq_true, ih]
    constructor
    · rintro ⟨h1, h2⟩ j h3 h4
      by_cases e : j = i
      · rw [e]; exact h1
      · exact h2 j (by omega) (by omega)
    · intro h
      exact ⟨h i (by omega) (by omega), fun j h1 h2 => h j (by omega) (by omega)⟩
theorem boardB_iff (n : Int) (L : List Int) : boardB n L = true ↔ (1 ≤ n ∧ n ≤ 16) ∧ L.length ≤ 100 ∧ ∀ j : Int, 0 ≤ j → j < L.length → (1 ≤ rd L j ∧ rd L j ≤ full n) ∧ (j = 0 ∨ rd L (j - 1) < rd L j) := by
  unfold boardB
  simp only [Bool.and_eq_true, decide_eq_true_eq, risF_all, stepOk, Bool.or_eq_true, and_assoc, Int.zero_add]

theorem rising_loop (lo hi : Int) (L : List Int) (hm : L.length ≤ 4611686018427387904) (d : Nat) : ∀ i : Int, 0 ≤ i → (L.length : Int) = i + d → Ev (fun k => impl_isRising.l0 k L lo hi L (L.length : Int) i) (risF lo hi L d i) := by
  induction d with
  | zero =>
    intro i h0 h1
    refine evSucc (fun k => by rw [impl_isRising.l0]) ?_
    exact evF (by omega) (evS _)
  | succ d ih =>
    intro i h0 h1
    refine evSucc (fun k => by rw [impl_isRising.l0]) ?_
    refine evT (by omega) (evT h0 (evT (by omega) ?_))
    rw [within_eq]
    refine evG rfl ?_
    simp only [risF, stepOk]
    have hw : wrap64 (i + 1) = i + 1 := wrap_in (by omega) (by omega)
    have hx := ih (i + 1) (by omega) (by omega)
    rw [hw]
    by_cases c : lo ≤ rd L i ∧ rd L i ≤ hi
    · refine evT (by simpa using c) ?_
      by_cases e : i > 0
      · have hv : wrap64 (i - 1) = i - 1 := wrap_in (by omega) (by omega)
        rw [hv]
        refine evT e (evT (by omega) (evT (by omega) ?_))
        by_cases g : rd L i ≤ rd L (i - 1)
        · refine evT g (evE ?_ (evS false))
          simp [show ¬ i = 0 by omega, show ¬ rd L (i - 1) < rd L i by omega]
        · refine evF g (evE ?_ hx)
          simp [c, show rd L (i - 1) < rd L i by omega]
      · obtain rfl : i = 0 := by omega
        refine evF e (evE ?_ hx)
        simp [c.1, c.2]
    · refine evF (by simpa using c) (evE ?_ (evS false))
      simp [c]
theorem is_loop (n : Int) (hn : 1 ≤ n ∧ n ≤ 16) (L : List Int) (hm : L.length ≤ 4611686018427387904) (d : Nat) : ∀ i : Int, 0 ≤ i → (L.length : Int) = i + d → Ev (fun k => spec_l07Is.l0 k i n L) (risF 1 (full n) L d i) := by
  obtain ⟨f1, f2, f3, f4, f5⟩ := full_shl n hn
  induction d with
  | zero =>
    intro i h0 h1
    refine evSucc (fun k => by rw [spec_l07Is.l0]) ?_
    exact evF (by omega) (evS _)
  | succ d ih =>
    intro i h0 h1
    refine evSucc (fun k => by rw [spec_l07Is.l0]) ?_
    rw [f4, f1, l01In_eq]
    refine evT (by omega) (evT h0 (evT (by omega) (evG rfl ?_)))
    simp only [risF, stepOk]
    have hw : wrap64 (i + 1) = i + 1 := wrap_in (by omega) (by omega)
    have hx := ih (i + 1) (by omega) (by omega)
    rw [hw]
    by_cases c : 1 ≤ rd L i ∧ rd L i ≤ full n
    · refine evT (by simpa using c) ?_
      by_cases e : i > 0
      · have hv : wrap64 (i - 1) = i - 1 := wrap_in (by omega) (by omega)
        rw [hv]
        refine evT e (evT (by omega) (evT (by omega) ?_))
        by_cases g : rd L i ≤ rd L (i - 1)
        · refine evT g (evE ?_ (evS false))
          simp [show ¬ i = 0 by omega, show ¬ rd L (i - 1) < rd L i by omega]
        · refine evF g (evE ?_ hx)
          simp [c, show rd L (i - 1) < rd L i by omega]
      · obtain rfl : i = 0 := by omega
        refine evF e (evE ?_ hx)
        simp [c.1, c.2]
    · refine evF (by simpa using c) (evE ?_ (evS false))
      simp [c]
theorem board_impl (n : Int) (L : List Int) (hm : L.length ≤ 4611686018427387904) : Ev (fun k => impl_IsBoard.f k n L) (boardB n L) := by
  unfold impl_IsBoard.f boardB
  rw [within_eq]
  refine evG rfl ?_
  by_cases hn : 1 ≤ n ∧ n ≤ 16
  · rw [(full_shl n hn).1]
    refine evT (by simpa using hn) ?_
    by_cases hl : L.length ≤ 100
    · refine evT (by omega) (evT (by omega) (evB (a := risF 1 (full n) L L.length 0) ?_ (evE ?_ (evS _))))
      · unfold impl_isRising.f
        exact rising_loop 1 (full n) L hm L.length 0 (by omega) (by omega)
      · simp [hn, hl]
    · refine evF (by omega) (evE ?_ (evS false))
      simp [hl]
  · refine evF (by simpa using hn) (evE ?_ (evS false))
    simp [hn]
theorem board_spec (n : Int) (L : List Int) (hm : L.length ≤ 4611686018427387904) : Ev (fun k => spec_l07Is.f k n L) (boardB n L) := by
  unfold spec_l07Is.f boardB
  rw [l01In_eq]
  refine evG rfl ?_
  by_cases hn : 1 ≤ n ∧ n ≤ 16
  · refine evT (by simpa using hn) ?_
    refine evSucc (fun k => by rw [spec_l07Is.j0]) ?_
    by_cases hl : L.length ≤ 100
    · refine evF (by simp; omega) (evE ?_ (is_loop n hn L hm L.length 0 (by omega) (by omega)))
      simp [hn, hl]
    · refine evT (by simp; omega) (evE ?_ (evS false))
      simp [hl]
  · refine evF (by simpa using hn) ?_
    refine evSucc (fun k => by rw [spec_l07Is.j0]) ?_
    refine evT rfl (evE ?_ (evS false))
    simp [hn]
end Go.Proofs.Ytjeiifiacjhfoaa.B
