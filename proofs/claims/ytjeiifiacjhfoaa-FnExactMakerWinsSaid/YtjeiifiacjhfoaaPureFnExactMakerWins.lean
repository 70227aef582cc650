/-
  The pure statement of the law FnExactMakerWins: program and reference tell the same winner and code, and the board stays as it was, whatever the argument is.
-/
import Derived.Test.YtjeiifiacjhfoaaQ41
import Derived.Test.YtjeiifiacjhfoaaQ24
import Derived.Test.YtjeiifiacjhfoaaBoard
import Derived.Test.YtjeiifiacjhfoaaArith
import Derived.Test.YtjeiifiacjhfoaaMakerLaw
import Derived.Test.YtjeiifiacjhfoaaMakerNet
namespace Go.Proofs.Ytjeiifiacjhfoaa.Pure
open Go.RowKit Go.Proofs.Ytjeiifiacjhfoaa.Q Go.Proofs.YtjeiifiacjhfoaaW.PrintWords Go.Proofs.YtjeiifiacjhfoaaW.PrintLast Go.Proofs.YtjeiifiacjhfoaaW.PrintMore Go.Proofs.Ytjeiifiacjhfoaa.B

theorem two_zero (n : Nat) : Two n 0 0 := ⟨Nat.pow_pos (by decide), Nat.pow_pos (by decide), fun i => by simp [dg]⟩
theorem fl_zero {n : Int} {L : List Int} (hb : boardB n L = true) (d : Nat) : ∀ i : Int, 0 ≤ i → (L.length : Int) = i + d → fillF L 0 d i = 0 := by
  obtain ⟨b1, b2, b3⟩ := (boardB_iff n L).1 hb
  induction d with
  | zero => intro i _ _; rfl
  | succ d ih =>
    intro i h0 h1
    have g := b3 i h0 (by omega)
    have f := full_shl n b1
    have k62 : (2 : Nat) ^ 62 = 4611686018427387904 := by decide
    simp only [fillF]
    obtain ⟨x, hx⟩ := Int.eq_ofNat_of_zero_le (show 0 ≤ rd L i by omega)
    have e : Go.bits .and .i64 (rd L i) 0 = 0 := by
      rw [hx]
      have := and_nat x 0 (by omega) (by omega)
      simpa using this
    rw [e, if_neg (by omega)]
    exact ih (i + 1) (by omega) (by omega)
theorem maker_both (n : Int) (L : List Int) (h : L.length ≤ 1048576) : ∃ (r : Bool) (c : Int), Ev (fun k => spec_MakerWins.f k n L) (r, c) ∧ Ev (fun k => impl_MakerWins.f k n L) (r, c) := by
  unfold spec_MakerWins.f impl_MakerWins.f spec_l07Small.f
  have h1 := board_spec n L (by omega)
  have h2 := board_impl n L (by omega)
  cases hb : boardB n L with
  | false =>
    rw [hb] at h1 h2
    exact ⟨false, 1, evB (evB h1 (evF (by simp) (evS _))) (evF (by decide) (evS _)), evB h2 (evB (first_two _ _ _ _) (evF (by simp) (evE (by simp) (evS _))))⟩
  | true =>
    rw [hb] at h1 h2
    obtain ⟨b1, b2, b3⟩ := (boardB_iff n L).1 hb
    by_cases hn : n ≤ 9
    · have hfr := fr_le 0 0 n.toNat
      have hfl : fl L 0 = false := by
        unfold fl
        rw [show ((0 : Nat) : Int) = 0 from rfl, fl_zero hb L.length 0 (by omega) (by omega)]
        rfl
      obtain ⟨T', h3, _⟩ := maker_spec hb hn (fr 0 0 n.toNat + 1) 0 0 ⟨⟨two_zero _, .inl rfl⟩, hfl⟩ (by omega) _ (TabM.new n L)
      have h4 := maker_impl hb 20 0 0 (two_zero _) (by omega)
      generalize mw n L 0 0 = r at h3 h4
      exact ⟨r, 0, evB (evB h1 (evT rfl (evF (by omega) (evS _)))) (evT rfl (evB (table_spec n L ⟨b1.1, hn⟩) (evB h3 (evS _)))), evB h2 (evB (first_two _ _ _ _) (evT (by simp [hn]) (evB h4 (evS _))))⟩
    · exact ⟨false, 3, evB (evB h1 (evT rfl (evT (by omega) (evS _)))) (evF (by decide) (evS _)), evB h2 (evB (first_two _ _ _ _) (evF (by simp [hn]) (evE (by simp [hn]) (evS _))))⟩
theorem FnExactMakerWins (n : Int) (L : List Int) (_ : (Lit.int .i64 n).wf = true) (hm : L.length ≤ maxLen) (_ : ∀ x ∈ L, (Lit.int .i64 x).wf = true) : Ev (fun k => laws_FnExactMakerWins.f k n L) true := by
  unfold laws_FnExactMakerWins.f
  by_cases h : L.length ≤ 1048576
  · obtain ⟨r, c, hs, hi⟩ := maker_both n L h
    rw [szB_ok n L h]
    refine evG rfl (evF (by omega) (evB (toB n L h) (evB hs (evB (toB n L h) (evB hi (evF (by simp) ?_))))))
    refine evSucc (fun k => by rw [laws_FnExactMakerWins.j0]) ?_
    exact evF (by simp) (evB (toB n L h) (evB (eqB n L h) (evT rfl (evS _))))
  · rw [szB_big n L hm (by omega)]
    exact evG rfl (evT (by omega) (evS _))
end Go.Proofs.Ytjeiifiacjhfoaa.Pure
