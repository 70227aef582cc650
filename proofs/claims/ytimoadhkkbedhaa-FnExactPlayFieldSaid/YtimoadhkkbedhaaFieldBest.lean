/-
  Fields as pairs of sets; the code of a field and a game; the best points with the reference's table, and as the program chooses them. Fields alone, as the facts ask.
-/
import Derived.Test.YtimoadhkkbedhaaFieldTable
import Derived.Test.YtimoadhkkbedhaaOutBest
import Derived.Test.YtimoadhkkbedhaaQ12
import Derived.Test.YtimoadhkkbedhaaQ4
namespace Go.Proofs.Ytimoadhkkbedhaa.B
open Go.RowKit Go.Proofs.Ytimoadhkkbedhaa.Q Go.Proofs.YtimoadhkkbedhaaW.PrintWords Go.Proofs.YtimoadhkkbedhaaW.PrintLast Go.Proofs.YtimoadhkkbedhaaW.PrintMore

theorem field_two (P L R B : Int) (h : impl_IsField.f P L R B = some true) : ∃ a b : Nat, R = a ∧ B = b ∧ Two P.toNat a b := by
  obtain ⟨p0, p1⟩ := field_facts P L R B h
  obtain ⟨t0, t1, t2⟩ := trI_range P (by omega) (by omega)
  have hs := shl_one P (by omega) (by omega)
  have hp := pow_le P 8 (by omega)
  have hq := pow_pos' P
  have hf : wrap64 (shl .i64 1 P - 1) = ((2 ^ P.toNat : Nat) : Int) - 1 := by rw [hs, wrap_in (by omega) (by omega)]
  unfold impl_IsField.f impl_pairs.f at h
  simp only [within_eq, Option.bind_some] at h
  rw [hf, decide_eq_true (show 1 ≤ P ∧ P ≤ 8 from ⟨p0, p1⟩), show wrap64 (Int.tdiv (wrap64 (P * (wrap64 (P - 1)))) 2) = trI P from rfl, if_pos rfl, if_pos t0] at h
  split at h
  · rw [if_pos (show 0 ≤ P by omega)] at h
    split at h
    · rename_i hr
      split at h
      · rename_i hb
        have hr' := of_decide_eq_true hr
        have hb' := of_decide_eq_true hb
        obtain ⟨a, rfl⟩ := Int.eq_ofNat_of_zero_le hr'.1
        obtain ⟨b, rfl⟩ := Int.eq_ofNat_of_zero_le hb'.1
        have ha : a < 2 ^ P.toNat := by omega
        have hb2 : b < 2 ^ P.toNat := by omega
        refine ⟨a, b, rfl, rfl, two_of_and P.toNat a b ha hb2 ?_⟩
        rw [and_nat a b (Nat.lt_of_lt_of_le ha (Nat.pow_le_pow_right (by decide) (by omega))) (Nat.lt_of_lt_of_le hb2 (Nat.pow_le_pow_right (by decide) (by omega)))] at h
        simp at h
        omega
      · cases h
    · cases h
  · cases h
theorem code_spec0 (P L R B g : Int) (b : Bool) (h : impl_IsField.f P L R B = some b) : Ev (fun k => spec_l05Code.f k P L R B g) (codeF P L R B g 0 b) := by
  unfold spec_l05Code.f codeF
  rw [isField_same, h, l01In_eq]
  cases b with
  | false => exact evG rfl (evF (by simp) (evE (by simp) (evS _)))
  | true =>
    obtain ⟨p0, p1⟩ := field_facts P L R B h
    by_cases hg : 0 ≤ g ∧ g ≤ 1
    · refine evG rfl (evT rfl (evG rfl (evT (by simpa using hg) (evB (fair_spec P L R B g (by omega)) ?_))))
      cases fairB P L R B g with
      | true => exact evT rfl (evE (by simp [hg]) (evS _))
      | false => exact evF (by simp) (evE (by simp [hg]) (evS _))
    · exact evG rfl (evT rfl (evG rfl (evF (by simpa using hg) (evE (by simp [hg]) (evS _)))))
theorem fr_small (a b : Nat) (P : Int) (hP : 1 ≤ P ∧ P ≤ 8) : fr a b P.toNat < 12 := by
  have := fr_le a b P.toNat
  omega
/-- The points behind which the other player does not win. -/
def bestL (P L g : Int) (a b : Nat) (p : Int) : List Int := (ptsL P L a b g p).filter fun i => !W P L g (mvA p a i) (mvC p b i) (1 - p)
theorem bestL_len (P L g : Int) (a b : Nat) (p : Int) (hP : P ≤ 8) : (bestL P L g a b p).length ≤ 8 := Nat.le_trans (List.length_filter_le _ _) (ptsL_len P L a b g p hP)
theorem best_impl (P L g : Int) (hP : 1 ≤ P ∧ P ≤ 8) (hL : (Lit.int .i64 L).wf = true) (a b : Nat) (p : Int) (hp : p = 0 ∨ p = 1) (h : Two P.toNat a b) : Ev (fun k => bestF k g P L 12 a b p) (bestL P L g a b p) := by
  have hs := h.small (by omega)
  unfold bestF bestL
  refine evB (points_impl P L a b g p hP) (delP_ev _ _ _ (fun i hi => ?_))
  obtain ⟨h0, h1, h2, h3⟩ := ptsL_free P L g p a b hP h i hi
  obtain ⟨m1, m2⟩ := h.move p i h2 h3
  unfold lossP
  rw [coloured_impl P L a b p i h0, mvR_nat a p i hs.1 h0 (by omega), mvB_nat b p i hs.2 h0 (by omega), wrap_in (x := 1 - p) (by omega) (by omega)]
  exact evG rfl (wins_impl P L g hP hL 12 (mvA p a i) (mvC p b i) (1 - p) (by omega) m1 (fr_small _ _ P hP))
theorem best_l (P L g : Int) (hP : 1 ≤ P ∧ P ≤ 8) (a b : Nat) (p : Int) (hp : p = 0 ∨ p = 1) (h : Two P.toNat a b) (rest : List Int) : ∀ (j : Nat) (T acc : List Int), (ptsL P L a b g p).drop j = rest → TabW P L g T → acc.length ≤ j →
    ∃ T', Ev (fun k => spec_l05Best.l0 k g p T (ptsL P L a b g p) acc j P L a b) (acc ++ rest.filter (fun i => !W P L g (mvA p a i) (mvC p b i) (1 - p)), T') ∧ TabW P L g T' := by
  have hl := ptsL_len P L a b g p hP.2
  have hs := h.small (by omega)
  induction rest with
  | nil =>
    intro j T acc hd hT ha
    have hj := List.drop_eq_nil_iff.1 hd
    refine ⟨T, ?_, hT⟩
    refine evSucc (fun k => by rw [spec_l05Best.l0]) ?_
    exact evF (by omega) (evE (by simp) (evS _))
  | cons x rest ihr =>
    intro j T acc hd hT ha
    obtain ⟨hj, hx, hd2, hmem⟩ := drop_cons hd
    obtain ⟨i0, i1, i2, i3⟩ := ptsL_free P L g p a b hP h x hmem
    obtain ⟨m1, m2⟩ := h.move p x i2 i3
    obtain ⟨T1, h1, h2⟩ := wins_spec P L g hP 12 (mvA p a x) (mvC p b x) (1 - p) T (by omega) m1 (fr_small _ _ P hP) hT
    cases hw : W P L g (mvA p a x) (mvC p b x) (1 - p) with
    | true =>
      obtain ⟨T', h3, h4⟩ := ihr (j + 1) T1 acc hd2 h2 (by omega)
      refine ⟨T', ?_, h4⟩
      refine evSucc (fun k => by rw [spec_l05Best.l0]) ?_
      rw [hx, move_spec P L a b p x i0 (by omega), mvR_nat a p x hs.1 i0 (by omega), mvB_nat b p x hs.2 i0 (by omega), wrap_in (x := 1 - p) (by omega) (by omega), wrap_in (x := (j : Int) + 1) (by omega) (by omega)]
      rw [hw] at h1
      exact evT (by omega) (evT (by omega) (evG rfl (evB h1 (evT rfl (evE (by simp [hw]) h3)))))
    | false =>
      obtain ⟨T', h3, h4⟩ := ihr (j + 1) T1 (acc ++ [x]) hd2 h2 (by simp; omega)
      refine ⟨T', ?_, h4⟩
      refine evSucc (fun k => by rw [spec_l05Best.l0]) ?_
      rw [hx, move_spec P L a b p x i0 (by omega), mvR_nat a p x hs.1 i0 (by omega), mvB_nat b p x hs.2 i0 (by omega), wrap_in (x := 1 - p) (by omega) (by omega), wrap_in (x := (j : Int) + 1) (by omega) (by omega)]
      rw [hw] at h1
      exact evT (by omega) (evT (by omega) (evG rfl (evB h1 (evF (by simp) (evT (by omega) (evE (by simp [hw]) h3))))))
theorem best_spec (P L g : Int) (hP : 1 ≤ P ∧ P ≤ 8) (a b : Nat) (p : Int) (hp : p = 0 ∨ p = 1) (h : Two P.toNat a b) (T : List Int) (hT : TabW P L g T) :
    ∃ T', Ev (fun k => spec_l05Best.f k P L a b g p T) (bestL P L g a b p, T') ∧ TabW P L g T' := by
  have hs := h.small (by omega)
  have k62 : (2 : Nat) ^ 62 = 4611686018427387904 := by decide
  obtain ⟨T', h3, h4⟩ := best_l P L g hP a b p hp h (ptsL P L a b g p) 0 T [] rfl hT (by simp)
  refine ⟨T', ?_, h4⟩
  unfold spec_l05Best.f
  exact evB (points_spec P L a b g p hP (by omega) (by omega)) (evE (by simp [bestL]) h3)
end Go.Proofs.Ytimoadhkkbedhaa.B
