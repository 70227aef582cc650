/-
  Fields as pairs of sets; the code of a field and a game. Fields alone, as the facts ask.
-/
import Derived.Test.YtimoadhkkbedhaaFieldWins
import Derived.Test.YtimoadhkkbedhaaFieldFair
import Derived.Test.YtimoadhkkbedhaaQ4
namespace Go.Proofs.Ytimoadhkkbedhaa.B
open Go.RowKit Go.Proofs.Ytimoadhkkbedhaa.Q Go.Proofs.YtimoadhkkbedhaaW.PrintWords Go.Proofs.YtimoadhkkbedhaaW.PrintLast Go.Proofs.YtimoadhkkbedhaaW.PrintMore

theorem field_two (P L R B : Int) (h : impl_IsField.f P L R B = some true) : ∃ a b : Nat, R = a ∧ B = b ∧ Two P.toNat a b := by
  obtain ⟨p0, p1⟩ := field_facts P L R B h
  obtain ⟨t0, t1, t2⟩ := trI_range P (by omega) (by omega)
  have hs := shl_one P (by omega) (by omega)
  have hp := pow_le P 8 (by omega)
  have hq := pow_pos' P
  have hf : wrap64 (shl .i64 1 P - 1) = ((2 ^ P.toNat : Nat) : Int) - 1 := by rw [hs, wrap_in (by omega) (by omega)]
  unfold impl_IsField.f impl_pairs.f at h
  simp only [within_eq, Option.bind_some] at h
  rw [hf, decide_eq_true (show 1 ≤ P ∧ P ≤ 8 from ⟨p0, p1⟩), show wrap64 (Int.tdiv (wrap64 (P * (wrap64 (P - 1)))) 2) = trI P from rfl, if_pos rfl, if_pos t0] at h
  split at h
  · rw [if_pos (show 0 ≤ P by omega)] at h
    split at h
    · rename_i hr
      split at h
      · rename_i hb
        have hr' := of_decide_eq_true hr
        have hb' := of_decide_eq_true hb
        obtain ⟨a, rfl⟩ := Int.eq_ofNat_of_zero_le hr'.1
        obtain ⟨b, rfl⟩ := Int.eq_ofNat_of_zero_le hb'.1
        have ha : a < 2 ^ P.toNat := by omega
        have hb2 : b < 2 ^ P.toNat := by omega
        refine ⟨a, b, rfl, rfl, two_of_and P.toNat a b ha hb2 ?_⟩
        rw [and_nat a b (Nat.lt_of_lt_of_le ha (Nat.pow_le_pow_right (by decide) (by omega))) (Nat.lt_of_lt_of_le hb2 (Nat.pow_le_pow_right (by decide) (by omega)))] at h
        simp at h
        omega
      · cases h
    · cases h
  · cases h
theorem code_spec0 (P L R B g : Int) (b : Bool) (h : impl_IsField.f P L R B = some b) : Ev (fun k => spec_l05Code.f k P L R B g) (codeF P L R B g 0 b) := by
  unfold spec_l05Code.f codeF
  rw [isField_same, h, l01In_eq]
  cases b with
  | false => exact evG rfl (evF (by simp) (evE (by simp) (evS _)))
  | true =>
    obtain ⟨p0, p1⟩ := field_facts P L R B h
    by_cases hg : 0 ≤ g ∧ g ≤ 1
    · refine evG rfl (evT rfl (evG rfl (evT (by simpa using hg) (evB (fair_spec P L R B g (by omega)) ?_))))
      cases fairB P L R B g with
      | true => exact evT rfl (evE (by simp [hg]) (evS _))
      | false => exact evF (by simp) (evE (by simp [hg]) (evS _))
    · exact evG rfl (evT rfl (evG rfl (evF (by simpa using hg) (evE (by simp [hg]) (evS _)))))
theorem fr_small (a b : Nat) (P : Int) (hP : 1 ≤ P ∧ P ≤ 8) : fr a b P.toNat < 12 := by
  have := fr_le a b P.toNat
  omega
end Go.Proofs.Ytimoadhkkbedhaa.B
