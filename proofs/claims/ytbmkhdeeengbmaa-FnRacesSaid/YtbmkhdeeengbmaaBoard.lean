/-
  Boards: the program's and the reference's test come to one plain test, whatever the arguments are.
  The counting of nodes: program and reference come to the number of ones, below 2^24.
  Boards with two sets of nodes: the codes and the test of states, program and reference. No condition beyond those that are written.
  The first line that is in a set, plainly; the program's function. Boards alone.
-/
import Derived.Test.YtbmkhdeeengbmaaQ3
import Derived.Test.YtbmkhdeeengbmaaQ4
import Derived.Test.YtbmkhdeeengbmaaArith
import Derived.Test.YtbmkhdeeengbmaaQ1

namespace Go.Proofs.Ytbmkhdeeengbmaa.B
open Go.RowKit Go.Proofs.Ytbmkhdeeengbmaa.Q Go.Proofs.YtbmkhdeeengbmaaW.PrintWords Go.Proofs.YtbmkhdeeengbmaaW.PrintLast Go.Proofs.YtbmkhdeeengbmaaW.PrintMore

def stepOk (lo hi : Int) (L : List Int) (i : Int) : Bool := decide (lo ≤ rd L i ∧ rd L i ≤ hi) && (decide (i = 0) || decide (rd L (i - 1) < rd L i))
def risF (lo hi : Int) (L : List Int) : Nat → Int → Bool
  | 0, _ => true
  | d + 1, i => stepOk lo hi L i && risF lo hi L d (i + 1)
/-- The set of all nodes. -/
def full (n : Int) : Int := ((2 ^ n.toNat : Nat) : Int) - 1
/-- A board, plainly. -/
def boardB (n : Int) (L : List Int) : Bool := (decide (1 ≤ n ∧ n ≤ 16) && decide (L.length ≤ 100)) && risF 1 (full n) L L.length 0
theorem full_shl (n : Int) (h : 1 ≤ n ∧ n ≤ 16) : wrap64 (shl .i64 1 n - 1) = full n ∧ 1 ≤ full n ∧ full n ≤ 65535 ∧ IntKind.u64.wrap n = n ∧ shl .i64 1 n = full n + 1 := by
  have h2 := pow_le n 16 (by omega)
  have h3 := Nat.pow_le_pow_right (n := 2) (by decide) (show 1 ≤ n.toNat by omega)
  have h4 := shl_one n (by omega) (by omega)
  unfold full
  rw [h4]
  generalize 2 ^ n.toNat = m at *
  refine ⟨wrap_in (by omega) (by omega), by omega, by omega, u64_in _ (by omega) (by omega), by omega⟩
theorem risF_all (lo hi : Int) (L : List Int) (d : Nat) : ∀ i, risF lo hi L d i = true ↔ ∀ j, i ≤ j → j < i + d → stepOk lo hi L j = true := by
  induction d with
  | zero =>
    intro i
    refine ⟨fun _ j h0 h1 => ?_, fun _ => rfl⟩
    omega
  | succ d ih =>
    intro i
    simp only [risF, Bool.and_eq_true, ih]
    constructor
    · rintro ⟨h1, h2⟩ j h3 h4
      by_cases e : j = i
      · rw [e]; exact h1
      · exact h2 j (by omega) (by omega)
    · intro h
      exact ⟨h i (by omega) (by omega), fun j h1 h2 => h j (by omega) (by omega)⟩
theorem boardB_iff (n : Int) (L : List Int) : boardB n L = true ↔ (1 ≤ n ∧ n ≤ 16) ∧ L.length ≤ 100 ∧ ∀ j : Int, 0 ≤ j → j < L.length → (1 ≤ rd L j ∧ rd L j ≤ full n) ∧ (j = 0 ∨ rd L (j - 1) < rd L j) := by
  unfold boardB
  simp only [Bool.and_eq_true, decide_eq_true_eq, risF_all, stepOk, Bool.or_eq_true, and_assoc, Int.zero_add]

theorem rising_loop (lo hi : Int) (L : List Int) (hm : L.length ≤ 4611686018427387904) (d : Nat) : ∀ i : Int, 0 ≤ i → (L.length : Int) = i + d → Ev (fun k => impl_isRising.l0 k L lo hi L (L.length : Int) i) (risF lo hi L d i) := by
  induction d with
  | zero =>
    intro i h0 h1
    refine evSucc (fun k => by rw [impl_isRising.l0]) ?_
    exact evF (by omega) (evS _)
  | succ d ih =>
    intro i h0 h1
    refine evSucc (fun k => by rw [impl_isRising.l0]) ?_
    refine evT (by omega) (evT h0 (evT (by omega) ?_))
    rw [within_eq]
    refine evG rfl ?_
    simp only [risF, stepOk]
    have hw : wrap64 (i + 1) = i + 1 := wrap_in (by omega) (by omega)
    have hx := ih (i + 1) (by omega) (by omega)
    rw [hw]
    by_cases c : lo ≤ rd L i ∧ rd L i ≤ hi
    · refine evT (by simpa using c) ?_
      by_cases e : i > 0
      · have hv : wrap64 (i - 1) = i - 1 := wrap_in (by omega) (by omega)
        rw [hv]
        refine evT e (evT (by omega) (evT (by omega) ?_))
        by_cases g : rd L i ≤ rd L (i - 1)
        · refine evT g (evE ?_ (evS false))
          simp [show ¬ i = 0 by omega, show ¬ rd L (i - 1) < rd L i by omega]
        · refine evF g (evE ?_ hx)
          simp [c, show rd L (i - 1) < rd L i by omega]
      · obtain rfl : i = 0 := by omega
        refine evF e (evE ?_ hx)
        simp [c.1, c.2]
    · refine evF (by simpa using c) (evE ?_ (evS false))
      simp [c]
theorem is_loop (n : Int) (hn : 1 ≤ n ∧ n ≤ 16) (L : List Int) (hm : L.length ≤ 4611686018427387904) (d : Nat) : ∀ i : Int, 0 ≤ i → (L.length : Int) = i + d → Ev (fun k => spec_l07Is.l0 k i n L) (risF 1 (full n) L d i) := by
  obtain ⟨f1, f2, f3, f4, f5⟩ := full_shl n hn
  induction d with
  | zero =>
    intro i h0 h1
    refine evSucc (fun k => by rw [spec_l07Is.l0]) ?_
    exact evF (by omega) (evS _)
  | succ d ih =>
    intro i h0 h1
    refine evSucc (fun k => by rw [spec_l07Is.l0]) ?_
    rw [f4, f1, l01In_eq]
    refine evT (by omega) (evT h0 (evT (by omega) (evG rfl ?_)))
    simp only [risF, stepOk]
    have hw : wrap64 (i + 1) = i + 1 := wrap_in (by omega) (by omega)
    have hx := ih (i + 1) (by omega) (by omega)
    rw [hw]
    by_cases c : 1 ≤ rd L i ∧ rd L i ≤ full n
    · refine evT (by simpa using c) ?_
      by_cases e : i > 0
      · have hv : wrap64 (i - 1) = i - 1 := wrap_in (by omega) (by omega)
        rw [hv]
        refine evT e (evT (by omega) (evT (by omega) ?_))
        by_cases g : rd L i ≤ rd L (i - 1)
        · refine evT g (evE ?_ (evS false))
          simp [show ¬ i = 0 by omega, show ¬ rd L (i - 1) < rd L i by omega]
        · refine evF g (evE ?_ hx)
          simp [c, show rd L (i - 1) < rd L i by omega]
      · obtain rfl : i = 0 := by omega
        refine evF e (evE ?_ hx)
        simp [c.1, c.2]
    · refine evF (by simpa using c) (evE ?_ (evS false))
      simp [c]
theorem board_impl (n : Int) (L : List Int) (hm : L.length ≤ 4611686018427387904) : Ev (fun k => impl_IsBoard.f k n L) (boardB n L) := by
  unfold impl_IsBoard.f boardB
  rw [within_eq]
  refine evG rfl ?_
  by_cases hn : 1 ≤ n ∧ n ≤ 16
  · rw [(full_shl n hn).1]
    refine evT (by simpa using hn) ?_
    by_cases hl : L.length ≤ 100
    · refine evT (by omega) (evT (by omega) (evB (a := risF 1 (full n) L L.length 0) ?_ (evE ?_ (evS _))))
      · unfold impl_isRising.f
        exact rising_loop 1 (full n) L hm L.length 0 (by omega) (by omega)
      · simp [hn, hl]
    · refine evF (by omega) (evE ?_ (evS false))
      simp [hl]
  · refine evF (by simpa using hn) (evE ?_ (evS false))
    simp [hn]
theorem board_spec (n : Int) (L : List Int) (hm : L.length ≤ 4611686018427387904) : Ev (fun k => spec_l07Is.f k n L) (boardB n L) := by
  unfold spec_l07Is.f boardB
  rw [l01In_eq]
  refine evG rfl ?_
  by_cases hn : 1 ≤ n ∧ n ≤ 16
  · refine evT (by simpa using hn) ?_
    refine evSucc (fun k => by rw [spec_l07Is.j0]) ?_
    by_cases hl : L.length ≤ 100
    · refine evF (by simp; omega) (evE ?_ (is_loop n hn L hm L.length 0 (by omega) (by omega)))
      simp [hn, hl]
    · refine evT (by simp; omega) (evE ?_ (evS false))
      simp [hl]
  · refine evF (by simpa using hn) ?_
    refine evSucc (fun k => by rw [spec_l07Is.j0]) ?_
    refine evT rfl (evE ?_ (evS false))
    simp [hn]
end Go.Proofs.Ytbmkhdeeengbmaa.B

namespace Go.Proofs.Ytbmkhdeeengbmaa.B
open Go.RowKit Go.Proofs.Ytbmkhdeeengbmaa.Q Go.Proofs.YtbmkhdeeengbmaaW.PrintWords Go.Proofs.YtbmkhdeeengbmaaW.PrintLast Go.Proofs.YtbmkhdeeengbmaaW.PrintMore

/-- The number of ones of a number that is not negative. -/
def popI (x : Int) : Int := (pop x.toNat : Int)
theorem popI_range (x : Int) : 0 ≤ popI x ∧ popI x ≤ 64 := by
  have := pop_range x.toNat
  unfold popI
  omega
theorem many_eq (x : Int) (h0 : 0 ≤ x) (h1 : x < 16777216) : impl_many.f x = some (popI x) := by
  obtain ⟨n, rfl⟩ := Int.eq_ofNat_of_zero_le h0
  unfold impl_many.f popI
  rw [u64_id n (by have : (2 : Nat) ^ 63 = 9223372036854775808 := (by decide); omega), ones_go n (by omega), Int.toNat_natCast]
  rfl
theorem ones_loop (m : Nat) : ∀ (n : Nat) (c : Int), pop n = m → n < 2 ^ 62 → 0 ≤ c → c + m ≤ 1000000 → Ev (fun k => spec_l07Ones.l0 k (n : Int) c) (c + m) := by
  induction m with
  | zero =>
    intro n c hp hn h0 h1
    refine evSucc (fun k => by rw [spec_l07Ones.l0]) ?_
    refine evF (fun h => ?_) (evE (by omega) (evS c))
    have := pop_less n (by omega) hn
    omega
  | succ m ih =>
    intro n c hp hn h0 h1
    refine evSucc (fun k => by rw [spec_l07Ones.l0]) ?_
    by_cases h : n = 0
    · subst h
      unfold pop at hp
      rw [popF_zero] at hp
      omega
    · have hl := pop_less n (by omega) hn
      refine evT (by omega) ?_
      rw [iand_less n (by omega) hn, wrap_in (x := c + 1) (by omega) (by omega)]
      exact evE (by omega) (ih (n &&& (n - 1)) (c + 1) (by omega) (Nat.and_lt_two_pow n (by omega)) (by omega) (by omega))
theorem ones_eq (x : Int) (h0 : 0 ≤ x) (h1 : x < 4611686018427387904) : Ev (fun k => spec_l07Ones.f k x) (popI x) := by
  obtain ⟨n, rfl⟩ := Int.eq_ofNat_of_zero_le h0
  unfold spec_l07Ones.f popI
  exact evE (by rw [Int.toNat_natCast]; omega) (ones_loop (pop n) n 0 rfl (by have : (2 : Nat) ^ 62 = 4611686018427387904 := (by decide); omega) (by omega) (by have := pop_range n; omega))
end Go.Proofs.Ytbmkhdeeengbmaa.B

namespace Go.Proofs.Ytbmkhdeeengbmaa.B
open Go.RowKit Go.Proofs.Ytbmkhdeeengbmaa.Q Go.Proofs.YtbmkhdeeengbmaaW.PrintWords Go.Proofs.YtbmkhdeeengbmaaW.PrintLast Go.Proofs.YtbmkhdeeengbmaaW.PrintMore

def setsC (n : Int) (L : List Int) (a b : Int) : Int := if boardB n L = true then if (0 ≤ a ∧ a ≤ full n) ∧ (0 ≤ b ∧ b ≤ full n) then 0 else 2 else 1
def stateB (a b : Int) : Bool := decide (Go.bits .and .i64 a b = 0) && decide (0 ≤ popI a - popI b ∧ popI a - popI b ≤ 1)
theorem sets_impl (n : Int) (L : List Int) (a b : Int) (hm : L.length ≤ 1048576) : Ev (fun k => impl_setsCode.f k n L a b) (setsC n L a b) := by
  unfold impl_setsCode.f setsC
  rw [within_eq, within_eq]
  have hb := board_impl n L (by omega)
  cases h : boardB n L with
  | false =>
    rw [h] at hb
    refine evB hb (evG rfl ?_)
    generalize wrap64 (wrap64 (2 ^ (mx (mn n 16) 0).toNat) - 1) = top
    by_cases q : 0 ≤ a ∧ a ≤ top
    · exact evT (by simpa using q) (evG rfl (evB (first_two _ _ _ _) (evS _)))
    · exact evF (by simpa using q) (evB (first_two _ _ _ _) (evS _))
  | true =>
    rw [h] at hb
    have hn := ((boardB_iff n L).1 h).1
    have hx : wrap64 (wrap64 (2 ^ (mx (mn n 16) 0).toNat) - 1) = full n := by
      have e : (mx (mn n 16) 0) = n := by simp [mx, mn]; omega
      have f := full_shl n hn
      unfold full at f ⊢
      have e2 : (2 : Int) ^ n.toNat = ((2 ^ n.toNat : Nat) : Int) := by push_cast; rfl
      rw [e, e2, wrap_in (x := ((2 ^ n.toNat : Nat) : Int)) (by omega) (by omega), wrap_in (by omega) (by omega)]
    rw [hx]
    refine evB hb (evG rfl ?_)
    by_cases ha : 0 ≤ a ∧ a ≤ full n
    · refine evT (by simpa using ha) (evG rfl (evB (first_two _ _ _ _) (evE ?_ (evS _))))
      simp [ha]
    · refine evF (by simpa using ha) (evB (first_two _ _ _ _) (evE ?_ (evS _)))
      simp [ha]
theorem state_impl (a b : Int) (h0 : 0 ≤ a ∧ a ≤ 65535) (h1 : 0 ≤ b ∧ b ≤ 65535) : impl_isState.f a b = some (stateB a b) := by
  unfold impl_isState.f stateB
  have r1 := popI_range a
  have r2 := popI_range b
  rw [many_eq a h0.1 (by omega), many_eq b h1.1 (by omega)]
  simp only [Option.bind_some]
  rw [wrap_in (by omega) (by omega)]
  generalize Go.bits .and .i64 a b = z
  generalize popI a = p at *
  generalize popI b = q at *
  by_cases c : z = 0
  · rw [if_pos c]
    by_cases d : p - q = 0
    · rw [if_pos d]
      simp [c, d]
    · rw [if_neg d]
      simp only [c, decide_true, Bool.true_and]
      congr 1
      rw [Bool.eq_iff_iff]
      simp only [beq_iff_eq, decide_eq_true_eq]
      omega
  · rw [if_neg c]
    simp [c]
theorem sets_spec (n : Int) (L : List Int) (a b : Int) (hm : L.length ≤ 1048576) : Ev (fun k => spec_l07Sets.f k n L a b) (if setsC n L a b = 0 then if stateB a b = true then 0 else 5 else setsC n L a b) := by
  unfold spec_l07Sets.f setsC
  have hb := board_spec n L (by omega)
  cases h : boardB n L with
  | false =>
    rw [h] at hb
    exact evB hb (evF (by simp) (evE (by simp) (evS _)))
  | true =>
    rw [h] at hb
    have hn := ((boardB_iff n L).1 h).1
    obtain ⟨f1, f2, f3, f4, f5⟩ := full_shl n hn
    rw [f4, f1, l01In_eq, l01In_eq]
    refine evB hb (evT rfl (evT (by omega) (evG rfl ?_)))
    by_cases ha : 0 ≤ a ∧ a ≤ full n
    · refine evT (by simpa using ha) (evG rfl ?_)
      refine evSucc (fun k => by rw [spec_l07Sets.j0]) ?_
      by_cases hb' : 0 ≤ b ∧ b ≤ full n
      · refine evF (by simpa using hb') ?_
        have e : (if true = true then if (0 ≤ a ∧ a ≤ full n) ∧ (0 ≤ b ∧ b ≤ full n) then (0 : Int) else 2 else 1) = 0 := by simp [ha, hb']
        rw [e, if_pos rfl]
        unfold stateB
        have r1 := popI_range a
        have r2 := popI_range b
        by_cases c : Go.bits .and .i64 a b = 0
        · refine evT c (evB (ones_eq a (by omega) (by omega)) (evB (ones_eq b (by omega) (by omega)) ?_))
          rw [wrap_in (by omega) (by omega), l01In_eq]
          refine evG rfl ?_
          by_cases d : 0 ≤ popI a - popI b ∧ popI a - popI b ≤ 1
          · exact evT (by simpa using d) (evE (by rw [decide_eq_true c, decide_eq_true d]; rfl) (evS _))
          · exact evF (by simpa using d) (evE (by rw [decide_eq_true c, decide_eq_false d]; rfl) (evS _))
        · exact evF c (evE (by rw [decide_eq_false c]; rfl) (evS _))
      · exact evT (by simp; omega) (evE (by simp [ha, hb']) (evS _))
    · refine evF (by simpa using ha) ?_
      refine evSucc (fun k => by rw [spec_l07Sets.j0]) ?_
      exact evT rfl (evE (by simp [ha]) (evS _))
theorem setsC_zero (n : Int) (L : List Int) (a b : Int) (h : setsC n L a b = 0) : boardB n L = true ∧ (0 ≤ a ∧ a ≤ full n) ∧ (0 ≤ b ∧ b ≤ full n) ∧ full n ≤ 65535 := by
  unfold setsC at h
  split at h
  · rename_i hb
    split at h
    · rename_i hc
      exact ⟨hb, hc.1, hc.2, (full_shl n ((boardB_iff n L).1 hb).1).2.2.1⟩
    · omega
  · omega
end Go.Proofs.Ytbmkhdeeengbmaa.B

namespace Go.Proofs.Ytbmkhdeeengbmaa.B
open Go.RowKit Go.Proofs.Ytbmkhdeeengbmaa.Q Go.Proofs.YtbmkhdeeengbmaaW.PrintWords Go.Proofs.YtbmkhdeeengbmaaW.PrintLast Go.Proofs.YtbmkhdeeengbmaaW.PrintMore

/-- The first line that is in a set, 0 for none. -/
def fillF (L : List Int) (s : Int) : Nat → Int → Int
  | 0, _ => 0
  | d + 1, i => if Go.bits .and .i64 (rd L i) s = rd L i then rd L i else fillF L s d (i + 1)
theorem andNot_test (x s : Int) (h0 : 0 ≤ x) (h1 : x ≤ 65535) (h2 : 0 ≤ s) (h3 : s ≤ 65535) : Go.bits .andNot .i64 x s = 0 ↔ Go.bits .and .i64 x s = x := by
  obtain ⟨x, rfl⟩ := Int.eq_ofNat_of_zero_le h0
  obtain ⟨s, rfl⟩ := Int.eq_ofNat_of_zero_le h2
  have k62 : (2 : Nat) ^ 62 = 4611686018427387904 := by decide
  exact andNot_zero x s (by omega) (by omega)
theorem fill_loop (n : Int) (L : List Int) (s : Int) (hb : boardB n L = true) (h2 : 0 ≤ s) (h3 : s ≤ 65535) (d : Nat) : ∀ i : Int, 0 ≤ i → (L.length : Int) = i + d → Ev (fun k => impl_Board_filled.l0 k s L (L.length : Int) i) (fillF L s d i) := by
  obtain ⟨b1, b2, b3⟩ := (boardB_iff n L).1 hb
  have f := full_shl n b1
  induction d with
  | zero =>
    intro i h0 h1
    refine evSucc (fun k => by rw [impl_Board_filled.l0]) ?_
    exact evF (by omega) (evS _)
  | succ d ih =>
    intro i h0 h1
    refine evSucc (fun k => by rw [impl_Board_filled.l0]) ?_
    have g := b3 i h0 (by omega)
    have t := andNot_test (rd L i) s (by omega) (by omega) h2 h3
    refine evT (by omega) (evT h0 (evT (by omega) ?_))
    simp only [fillF]
    by_cases c : Go.bits .and .i64 (rd L i) s = rd L i
    · rw [if_pos c]
      exact evT (t.2 c) (evS _)
    · rw [if_neg c, wrap_in (x := i + 1) (by omega) (by omega)]
      exact evF (fun e => c (t.1 e)) (ih (i + 1) (by omega) (by omega))
theorem filled_impl (n : Int) (L : List Int) (s : Int) (hb : boardB n L = true) (h2 : 0 ≤ s) (h3 : s ≤ 65535) : Ev (fun k => impl_Board_filled.f k n L s) (fillF L s L.length 0) := by
  unfold impl_Board_filled.f
  exact fill_loop n L s hb h2 h3 L.length 0 (by omega) (by omega)
end Go.Proofs.Ytbmkhdeeengbmaa.B
