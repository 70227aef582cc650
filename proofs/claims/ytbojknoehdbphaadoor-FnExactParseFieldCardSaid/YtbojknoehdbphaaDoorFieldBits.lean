/-
  Colours and digits of fields, and fields as pairs of sets. Fields alone, as the facts ask.
-/
import Derived.Test.YtbojknoehdbphaaDoorQ1
import Derived.Test.YtbojknoehdbphaaDoorFieldSame
import Derived.Test.YtbojknoehdbphaaDoorDigits
import Derived.Test.YtbojknoehdbphaaDoorChooseLaws
import Derived.Test.YtbojknoehdbphaaDoorShl
namespace Go.Proofs.YtbojknoehdbphaaDoor.B
open Go.RowKit Go.Proofs.YtbojknoehdbphaaDoor.Q Go.Proofs.YtbojknoehdbphaaDoorW.PrintWords Go.Proofs.YtbojknoehdbphaaDoorW.PrintLast Go.Proofs.YtbojknoehdbphaaDoorW.PrintMore

/-- The colour of a point. -/
def col (R B i : Int) : Int := wrap64 ((Go.bits .and .i64 (shr .i64 R i) 1) + (wrap64 (2 * (Go.bits .and .i64 (shr .i64 B i) 1))))
theorem colour_impl (P L R B i : Int) (h : 0 ≤ i) : impl_Field_colour.f P L R B i = some (col R B i) := by
  unfold impl_Field_colour.f col
  rw [if_pos h]
/-- A digit of a set. -/
theorem dig_div (x e : Int) (h0 : 0 ≤ x) (h1 : x < 9223372036854775808) (he0 : 0 ≤ e) (he1 : e ≤ 60) : Go.bits .and .i64 (shr .i64 x e) 1 = ((x.toNat / 2 ^ e.toNat % 2 : Nat) : Int) := by
  have r := shr_range x e h0 h1
  rw [bit01 _ r.1 r.2]
  unfold shr
  obtain ⟨n, rfl⟩ := Int.eq_ofNat_of_zero_le h0
  rw [show min e.toNat IntKind.i64.bits = e.toNat from Nat.min_eq_left (by have : IntKind.i64.bits = 64 := rfl; omega), Int.toNat_natCast]
  have e2 : ((2 : Int) ^ e.toNat) = ((2 ^ e.toNat : Nat) : Int) := by push_cast; rfl
  rw [e2]
  generalize 2 ^ e.toNat = m
  rw [Int.natCast_emod, Int.natCast_ediv]
  rfl
theorem dig_bit (a : Nat) (i : Int) (ha : a < 2 ^ 62) (h0 : 0 ≤ i) (h1 : i ≤ 60) : Go.bits .and .i64 (shr .i64 (a : Int) i) 1 = (((a.testBit i.toNat).toNat : Nat) : Int) := by
  have k62 : (2 : Nat) ^ 62 = 4611686018427387904 := by decide
  rw [dig_div _ i (by omega) (by omega) h0 h1, Int.toNat_natCast, Nat.testBit_eq_decide_div_mod_eq]
  have := Nat.mod_two_eq_zero_or_one (a / 2 ^ i.toNat)
  rcases this with e | e <;> simp [e]
theorem col_dg (a b : Nat) (i : Int) (ha : a < 2 ^ 62) (hb : b < 2 ^ 62) (h0 : 0 ≤ i) (h1 : i ≤ 60) : col a b i = ((dg a b i.toNat : Nat) : Int) := by
  unfold col dg
  rw [dig_bit a i ha h0 h1, dig_bit b i hb h0 h1]
  cases a.testBit i.toNat <;> cases b.testBit i.toNat <;> decide +kernel
theorem field_two (P L R B : Int) (h : impl_IsField.f P L R B = some true) : ∃ a b : Nat, R = a ∧ B = b ∧ Two P.toNat a b := by
  obtain ⟨p0, p1⟩ := field_facts P L R B h
  obtain ⟨t0, t1, t2⟩ := trI_range P (by omega) (by omega)
  have hs := shl_one P (by omega) (by omega)
  have hp := pow_le P 8 (by omega)
  have hq := pow_pos' P
  have hf : wrap64 (shl .i64 1 P - 1) = ((2 ^ P.toNat : Nat) : Int) - 1 := by rw [hs, wrap_in (by omega) (by omega)]
  unfold impl_IsField.f impl_pairs.f at h
  simp only [within_eq, Option.bind_some] at h
  rw [hf, decide_eq_true (show 1 ≤ P ∧ P ≤ 8 from ⟨p0, p1⟩), show wrap64 (Int.tdiv (wrap64 (P * (wrap64 (P - 1)))) 2) = trI P from rfl, if_pos rfl, if_pos t0] at h
  split at h
  · rw [if_pos (show 0 ≤ P by omega)] at h
    split at h
    · rename_i hr
      split at h
      · rename_i hb
        have hr' := of_decide_eq_true hr
        have hb' := of_decide_eq_true hb
        obtain ⟨a, rfl⟩ := Int.eq_ofNat_of_zero_le hr'.1
        obtain ⟨b, rfl⟩ := Int.eq_ofNat_of_zero_le hb'.1
        have ha : a < 2 ^ P.toNat := by omega
        have hb2 : b < 2 ^ P.toNat := by omega
        refine ⟨a, b, rfl, rfl, two_of_and P.toNat a b ha hb2 ?_⟩
        rw [and_nat a b (Nat.lt_of_lt_of_le ha (Nat.pow_le_pow_right (by decide) (by omega))) (Nat.lt_of_lt_of_le hb2 (Nat.pow_le_pow_right (by decide) (by omega)))] at h
        simp at h
        omega
      · cases h
    · cases h
  · cases h
theorem pow62 (n i : Nat) (hi : i ≤ n) (hn : n ≤ 61) : 2 ^ i < 2 ^ 62 := Nat.pow_lt_pow_right (by decide) (by omega)
theorem Two.small {n a b : Nat} (h : Two n a b) (hn : n ≤ 61) : a < 2 ^ 62 ∧ b < 2 ^ 62 := ⟨Nat.lt_trans h.1 (pow62 61 n hn (by decide)), Nat.lt_trans h.2.1 (pow62 61 n hn (by decide))⟩
end Go.Proofs.YtbojknoehdbphaaDoor.B
