/-
  The pure statement of the law FnExactPlayRace: program and reference tell the same play and code, the board stays as it was, and the marks hold, whatever the argument is.
-/
import Derived.Test.YtjeiifiacjhfoaaQ43
import Derived.Test.YtjeiifiacjhfoaaBoard
import Derived.Test.YtjeiifiacjhfoaaRacePlayLaw
namespace Go.Proofs.Ytjeiifiacjhfoaa.Pure
open Go.RowKit Go.Proofs.Ytjeiifiacjhfoaa.Q Go.Proofs.YtjeiifiacjhfoaaW.PrintWords Go.Proofs.YtjeiifiacjhfoaaW.PrintLast Go.Proofs.YtjeiifiacjhfoaaW.PrintMore Go.Proofs.Ytjeiifiacjhfoaa.B

theorem two_zero (n : Nat) : Two n 0 0 := ⟨Nat.pow_pos (by decide), Nat.pow_pos (by decide), fun i => by simp [dg]⟩
theorem fl_zero {n : Int} {L : List Int} (hb : boardB n L = true) (d : Nat) : ∀ i : Int, 0 ≤ i → (L.length : Int) = i + d → fillF L 0 d i = 0 := by
  obtain ⟨b1, b2, b3⟩ := (boardB_iff n L).1 hb
  induction d with
  | zero => intro i _ _; rfl
  | succ d ih =>
    intro i h0 h1
    have g := b3 i h0 (by omega)
    have f := full_shl n b1
    have k62 : (2 : Nat) ^ 62 = 4611686018427387904 := by decide
    simp only [fillF]
    obtain ⟨x, hx⟩ := Int.eq_ofNat_of_zero_le (show 0 ≤ rd L i by omega)
    have e : Go.bits .and .i64 (rd L i) 0 = 0 := by
      rw [hx]
      have := and_nat x 0 (by omega) (by omega)
      simpa using this
    rw [e, if_neg (by omega)]
    exact ih (i + 1) (by omega) (by omega)
theorem play_both (n : Int) (L : List Int) (h : L.length ≤ 1048576) : ∃ (l : List Int) (c : Int), l.length ≤ 24 ∧ Ev (fun k => spec_PlayRace.f k n L) (l, c) ∧ Ev (fun k => impl_PlayRace.f k n L) (l, c) := by
  unfold spec_PlayRace.f impl_PlayRace.f spec_l07Small.f
  have h1 := board_spec n L (by omega)
  have h2 := board_impl n L (by omega)
  cases hb : boardB n L with
  | false =>
    rw [hb] at h1 h2
    exact ⟨[], 1, by simp, evB (evB h1 (evF (by simp) (evS _))) (evF (by decide) (evS _)), evB h2 (evB (first_two _ _ _ _) (evF (by simp) (evE (by simp) (evS _))))⟩
  | true =>
    rw [hb] at h1 h2
    obtain ⟨b1, b2, b3⟩ := (boardB_iff n L).1 hb
    by_cases hn : n ≤ 9
    · have hfr : fr 0 0 n.toNat = n.toNat := by
        have : ∀ m, fr 0 0 m = m := fun m => by
          induction m with
          | zero => rfl
          | succ m ih => unfold fr; rw [ih]; simp [dg]
        exact this _
      have hsd : sd 0 0 = (0, 0) := by unfold sd; rw [if_pos rfl]
      have hfl : fl L 0 = false := by
        unfold fl
        rw [show ((0 : Nat) : Int) = 0 from rfl, fl_zero hb L.length 0 (by omega) (by omega)]
        rfl
      have hp0 : pop 0 = 0 := popF_zero 64
      have h3 := play_spec hb hn n.toNat 0 0 [] _ ⟨two_zero _, .inl rfl⟩ (by rw [hsd]; exact hfl) hfr (by rw [hp0]; rfl) (by simp) (TabR.new n L)
      have h4 := play_impl hb hn n.toNat 0 0 40 [] (two_zero _) hfr (by omega) (by simp; omega)
      rw [hsd, List.nil_append] at h3
      rw [List.nil_append] at h4
      have hl := playM_len n L n.toNat 0 0
      generalize playM n L n.toNat 0 0 = l at h3 h4 hl
      exact ⟨l, 0, by omega, evB (evB h1 (evT rfl (evF (by omega) (evS _)))) (evT rfl (evB (table_spec n L ⟨b1.1, hn⟩) h3)), evB h2 (evB (first_two _ _ _ _) (evT (by simp [hn]) (evB h4 (evS _))))⟩
    · exact ⟨[], 3, by simp, evB (evB h1 (evT rfl (evT (by omega) (evS _)))) (evF (by decide) (evS _)), evB h2 (evB (first_two _ _ _ _) (evF (by simp [hn]) (evE (by simp [hn]) (evS _))))⟩
theorem markB (n : Int) (L : List Int) (h : L.length ≤ 1048576) : Ev (fun k => laws_markBoard.f k n L 1) (1 + L.length, marks 1 L.length) := by
  unfold laws_markBoard.f
  exact evB (markInts L 1 (by omega) (by omega)) (evS _)
theorem FnExactPlayRace (n : Int) (L : List Int) (_ : (Lit.int .i64 n).wf = true) (hm : L.length ≤ maxLen) (_ : ∀ x ∈ L, (Lit.int .i64 x).wf = true) : Ev (fun k => laws_FnExactPlayRace.f k n L) true := by
  unfold laws_FnExactPlayRace.f
  by_cases h : L.length ≤ 1048576
  · obtain ⟨l, c, hl, hs, hi⟩ := play_both n L h
    rw [szB_ok n L h]
    refine evG rfl (evF (by omega) (evB (toB n L h) (evB hs (evB (toB n L h) (evB hi (evB (eqInts l (by omega)) (evT (by rfl) ?_)))))))
    refine evSucc (fun k => by rw [laws_FnExactPlayRace.j0]) ?_
    refine evF (by simp) (evB (toB n L h) (evB (eqB n L h) (evT rfl (evB (markB n L h) (evF (by omega) (evB (eqInts l (by omega)) (evT (by rfl) ?_)))))))
    refine evSucc (fun k => by rw [laws_FnExactPlayRace.j1]) ?_
    refine evF (by simp) (evB (markInts l 1 (by omega) (by omega)) (evB (heldInts l.length 1 (by omega) (by omega)) (evF (by omega) (evT (by rfl) ?_))))
    refine evB (toB n L h) (evB hi (evB (eqInts l (by omega)) (evT (by rfl) ?_)))
    refine evSucc (fun k => by rw [laws_FnExactPlayRace.j2]) ?_
    exact evF (by simp) (evB (heldInts l.length 1 (by omega) (by omega)) (evF (by omega) (evT (by rfl) (evS _))))
  · rw [szB_big n L hm (by omega)]
    exact evG rfl (evT (by omega) (evS _))
end Go.Proofs.Ytjeiifiacjhfoaa.Pure
