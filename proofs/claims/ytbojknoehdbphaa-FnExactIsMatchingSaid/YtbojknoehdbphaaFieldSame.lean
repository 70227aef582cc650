/-
  Fields: program's and reference's tests of fields and of joined points come to the same. No condition beyond those that are written.
-/
import Derived.Test.YtbojknoehdbphaaQ5
import Derived.Test.YtbojknoehdbphaaQ1
import Derived.Test.YtbojknoehdbphaaInEq
import Derived.Test.YtbojknoehdbphaaShl
namespace Go.Proofs.Ytbojknoehdbphaa.B
open Go.RowKit Go.Proofs.Ytbojknoehdbphaa.Q Go.Proofs.YtbojknoehdbphaaW.PrintWords Go.Proofs.YtbojknoehdbphaaW.PrintLast Go.Proofs.YtbojknoehdbphaaW.PrintMore

/-- The number of pairs, as the program reckons it. -/
def trI (n : Int) : Int := wrap64 (Int.tdiv (wrap64 (n * (wrap64 (n - 1)))) 2)
theorem trI_range (n : Int) (h0 : 0 ≤ n) (h1 : n ≤ 16) : 0 ≤ trI n ∧ trI n ≤ 120 ∧ IntKind.u64.wrap (trI n) = trI n := by
  have h : ∀ m : Fin 17, 0 ≤ trI (m.val : Nat) ∧ trI (m.val : Nat) ≤ 120 ∧ IntKind.u64.wrap (trI (m.val : Nat)) = trI (m.val : Nat) := by decide +kernel
  have := h ⟨n.toNat, by omega⟩
  simp only [Int.toNat_of_nonneg h0] at this
  exact this
theorem trI_small (n : Int) (h0 : 1 ≤ n) (h1 : n ≤ 8) : trI n ≤ 28 := by
  have h : ∀ m : Fin 9, trI (m.val : Nat) ≤ 28 := by decide +kernel
  have := h ⟨n.toNat, by omega⟩
  simp only [Int.toNat_of_nonneg (show 0 ≤ n by omega)] at this
  exact this
theorem u64_at (n : Int) (h0 : 0 ≤ n) (h1 : n ≤ 1000000) : IntKind.u64.wrap n = n := by
  have : IntKind.u64.wrap n = n % 18446744073709551616 := by
    simp [IntKind.wrap, IntKind.bits, IntKind.signed]
  omega
theorem isField_same (P L R B : Int) : spec_l05Is.f P L R B = impl_IsField.f P L R B := by
  unfold impl_IsField.f spec_l05Is.f impl_pairs.f
  simp only [within_eq, l01In_eq, Option.bind_some]
  by_cases h : 1 ≤ P ∧ P ≤ 8
  · obtain ⟨t0, t1, t2⟩ := trI_range P (by omega) (by omega)
    rw [show wrap64 (Int.tdiv (wrap64 (P * (wrap64 (P - 1)))) 2) = trI P from rfl, t2, u64_at P (by omega) (by omega), if_pos t0, if_pos t0, if_pos (show 0 ≤ P by omega)]
    rw [decide_eq_true h]
    simp only [if_true]
    by_cases c : 0 ≤ L ∧ L ≤ wrap64 (shl .i64 1 (trI P) - 1)
    · rw [decide_eq_true c]
      simp only [if_true]
      rw [if_pos (show 0 ≤ P by omega)]
    · rw [decide_eq_false c]
      rfl
  · rw [decide_eq_false h]
    rfl
/-- Whether two points are joined. -/
def jn (L i j : Int) : Bool := Go.bits .and .i64 (shr .i64 L (trI (mx i j) + mn i j)) 1 == 1
theorem joins_impl (P L R B i j : Int) (hi : 0 ≤ i ∧ i ≤ 16) (hj : 0 ≤ j ∧ j ≤ 16) (hne : i ≠ j) : impl_Field_joins.f P L R B i j = some (jn L i j) := by
  have hm : (0 ≤ mx i j ∧ mx i j ≤ 16) ∧ (0 ≤ mn i j ∧ mn i j ≤ 16) ∧ mn i j ≠ mx i j := by
    unfold mx mn
    split <;> (split <;> omega)
  obtain ⟨⟨a0, a1⟩, ⟨b0, b1⟩, hn⟩ := hm
  obtain ⟨t0, t1, t2⟩ := trI_range (mx i j) a0 a1
  unfold impl_Field_joins.f impl_pairs.f jn
  rw [if_neg hn, show wrap64 (Int.tdiv (wrap64 ((mx i j) * (wrap64 ((mx i j) - 1)))) 2) = trI (mx i j) from rfl]
  simp only [Option.bind_some]
  rw [wrap_in (x := trI (mx i j) + mn i j) (by omega) (by omega), if_pos (by omega)]
theorem joins_spec (P L R B i j : Int) (hi : 0 ≤ i ∧ i ≤ 16) (hj : 0 ≤ j ∧ j ≤ 16) : spec_l05Joined.f P L R B i j = some (jn L i j) := by
  have hm : (0 ≤ mx i j ∧ mx i j ≤ 16) ∧ (0 ≤ mn i j ∧ mn i j ≤ 16) := by
    unfold mx mn
    split <;> (split <;> omega)
  obtain ⟨⟨a0, a1⟩, b0, b1⟩ := hm
  obtain ⟨t0, t1, t2⟩ := trI_range (mx i j) a0 a1
  unfold spec_l05Joined.f jn
  rw [show wrap64 (Int.tdiv (wrap64 ((mx i j) * (wrap64 ((mx i j) - 1)))) 2) = trI (mx i j) from rfl]
  rw [wrap_in (x := trI (mx i j) + mn i j) (by omega) (by omega), u64_at _ (by omega) (by omega), if_pos (by omega)]
theorem field_facts (P L R B : Int) (h : impl_IsField.f P L R B = some true) : 1 ≤ P ∧ P ≤ 8 := by
  unfold impl_IsField.f at h
  rw [within_eq] at h
  by_cases c : 1 ≤ P ∧ P ≤ 8
  · exact c
  · rw [decide_eq_false c] at h
    simp at h
theorem field_total (P L R B : Int) : ∃ b, impl_IsField.f P L R B = some b := by
  unfold impl_IsField.f impl_pairs.f
  simp only [within_eq, Option.bind_some]
  by_cases h : 1 ≤ P ∧ P ≤ 8
  · obtain ⟨t0, t1, t2⟩ := trI_range P (by omega) (by omega)
    rw [show wrap64 (Int.tdiv (wrap64 (P * (wrap64 (P - 1)))) 2) = trI P from rfl, if_pos t0, if_pos (show 0 ≤ P by omega)]
    repeat' split
    all_goals exact ⟨_, rfl⟩
  · rw [decide_eq_false h]
    exact ⟨false, rfl⟩
end Go.Proofs.Ytbojknoehdbphaa.B
