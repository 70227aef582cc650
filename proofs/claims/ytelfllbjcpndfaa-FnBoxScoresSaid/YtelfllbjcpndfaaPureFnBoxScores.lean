/-
  The pure statement of the law FnBoxScores: net scores of reflected positions are equal, best edges keep them, plays draw all edges with the net score, one box is won like a heap, and both sides answer alike, whatever the code.
-/
import Derived.Test.YtelfllbjcpndfaaOutBoxScoresTop
import Derived.Test.YtelfllbjcpndfaaScoreBoth
import Derived.Test.YtelfllbjcpndfaaBoxTurn
import Derived.Test.YtelfllbjcpndfaaWithCode
import Derived.Test.YtelfllbjcpndfaaDrawBoxes
import Derived.Test.YtelfllbjcpndfaaLikeInts
import Derived.Test.YtelfllbjcpndfaaHeapBox
namespace Go.Proofs.Ytelfllbjcpndfaa.Pure
open Go.RowKit Go.Proofs.Ytelfllbjcpndfaa.Q Go.Proofs.YtelfllbjcpndfaaW.PrintWords Go.Proofs.YtelfllbjcpndfaaW.PrintLast Go.Proofs.YtelfllbjcpndfaaW.PrintMore Go.Proofs.Ytelfllbjcpndfaa.B

theorem one_ok (W H E : Int) (hc : codeN W H E = 0) : ∃ N, ∀ k, N ≤ k → OneOk k W H E (sc W H E.toNat) (bestL W H E.toNat) (playM W H (freeL W H E).length E.toNat) (freeL W H E) (withL W H E 4) ((reflN 1 W H E.toNat : Nat) : Int) := by
  obtain ⟨hb, hF⟩ := codeN_zero W H E hc
  obtain ⟨h1, h2, h0, _⟩ := (isBoxB_iff W H E).1 hb
  obtain ⟨a, rfl⟩ := Int.eq_ofNat_of_zero_le h0
  rw [Int.toNat_natCast]
  obtain ⟨f1, f2, f3, f4, f5, f6, f7, f8, f9, f10, f11⟩ := cnt_facts W H h1.1 h1.2 h2.1 h2.2
  obtain ⟨l, c, hl, ⟨N1, n1⟩, hlc⟩ := impl_with_code W H (a : Int) 4
  rw [hb, if_pos rfl, if_pos (by omega)] at hlc
  obtain ⟨rfl, rfl⟩ := Prod.mk.inj hlc
  obtain ⟨N2, n2⟩ := reflect_impl (t := 1) (by decide) hb
  have hb2 := refl_box (t := 1) (by decide) h1 h2 a
  have hc2 : codeN W H ((reflN 1 W H a : Nat) : Int) = 0 := by
    have hl2 := refl_free_len (t := 1) (by decide) hb
    change isBoxB W H _ = true at hb2
    change (freeL W H ((reflN 1 W H a : Nat) : Int)).length = _ at hl2
    unfold codeN
    rw [hb2, if_pos rfl, if_neg (by omega)]
  obtain ⟨r, _, ⟨N3, n3⟩, hr⟩ := net_both W H ((reflN 1 W H a : Nat) : Int)
  have hr2 := hr hc2
  rw [Int.toNat_natCast] at hr2
  rw [show sc W H (reflN 1 W H a) = sc W H a from sc_refl (t := 1) (by decide) _ a hb (Nat.lt_succ_self _)] at hr2
  subst hr2
  rw [hc2] at n3
  have hpl := play_len (freeL W H (a : Int)).length a hb rfl
  have hop := sc_open _ a hb (Nat.lt_succ_self _)
  have hT : ((withL W H (a : Int) 4).length : Int) = taken W H a := rfl
  have ht := taken_range hb
  obtain ⟨N4, n4⟩ := rounds_ok W H (sc W H a) (freeL W H (a : Int)).length a 1 0 hb rfl (.inl rfl) (by omega) (by omega) (by omega)
  obtain ⟨N5, n5⟩ : ∃ N, ∀ k, N ≤ k → ∀ x rest, playM W H (freeL W H (a : Int)).length a = x :: rest → laws_hasInt.f k (bestL W H a) x = some true := by
    by_cases c : freeL W H (a : Int) = []
    · exact ⟨0, fun k _ x rest e => by rw [c] at e; cases e⟩
    · obtain ⟨e, rest, he, _, _⟩ := bestL_cons hb c
      obtain ⟨N, hN⟩ := has_yes (bestL W H a) e (by unfold bestL; exact Nat.le_trans (List.length_filter_le _ _) (by omega)) (by rw [he]; exact List.mem_cons_self)
      refine ⟨N, fun k hk x r2 h => ?_⟩
      obtain ⟨m, hm⟩ : ∃ m, (freeL W H (a : Int)).length = m + 1 := ⟨(freeL W H (a : Int)).length - 1, by have := List.length_pos_iff.2 c; omega⟩
      rw [hm] at h
      simp only [playM, he] at h
      obtain ⟨rfl, _⟩ := List.cons.inj h
      exact hN k hk
  refine ⟨N1 + N2 + N3 + N4 + N5, fun k hk => ⟨?_, ?_, n2 k (by omega), n3 k (by omega), hpl, ?_, ?_, by omega, n5 k (by omega), n4 k (by omega)⟩⟩
  · unfold impl_FreeEdges.f
    rw [isBox_impl, hb]
    simp only [Option.bind_some]
    rw [if_pos trivial, free_impl W H _ hb]
    rfl
  · unfold impl_TakenBoxes.f
    have h5 : impl_BoxesWith.f k W H (a : Int) 4 = some (withL W H (a : Int) 4, 0) := n1 k (by omega)
    rw [h5]
    rfl
  · constructor
    · intro h
      exact Nat.lt_of_lt_of_le h (by unfold bestL; exact List.length_filter_le _ _)
    · intro h
      obtain ⟨e, rest, he, _, _⟩ := bestL_cons hb (fun c => by rw [c] at h; exact absurd h (by decide))
      rw [he]
      exact Nat.succ_pos _
  · rw [f9, hT, wrap_in (x := W * H - taken W H a) (by omega) (by omega)]
    refine ⟨_, rfl, decide_eq_false (by omega), _, rfl, ?_⟩
    rw [wrap_in (by omega) (by omega)]
    exact decide_eq_false (by omega)
theorem scores_ok (l : List Int) (hb : ∀ x ∈ l, 0 ≤ x ∧ x ≤ 255) (hl : l.length ≤ 4096) : ∃ N, ∀ k, N ≤ k → scoresOk k l := by
  obtain ⟨⟨W, H, E⟩, ⟨N1, d1⟩, _⟩ := drawNet_tot l hb hl
  obtain ⟨r, ⟨N2, s1⟩, ⟨N3, i1⟩, hr⟩ := net_both W H E
  obtain ⟨B, hB, ⟨N4, s2⟩, ⟨N5, i2⟩, hBe⟩ := best_both W H E
  obtain ⟨P, hP, ⟨N6, s3⟩, ⟨N7, i3⟩, hPe⟩ := play_both W H E
  obtain ⟨N8, l1⟩ := like_same B (by omega)
  obtain ⟨N9, l2⟩ := like_same P (by omega)
  obtain ⟨N10, hp⟩ := heap_ok
  obtain ⟨N11, ho⟩ : ∃ N, ∀ k, N ≤ k → (codeN W H E = 0 → ∃ F T E2, OneOk k W H E r B P F T E2) := by
    by_cases c : codeN W H E = 0
    · obtain ⟨N, hN⟩ := one_ok W H E c
      rw [← hr c, ← hBe c, ← hPe c] at hN
      exact ⟨N, fun k hk _ => ⟨_, _, _, hN k hk⟩⟩
    · exact ⟨0, fun k _ h => absurd h c⟩
  refine ⟨N1 + N2 + N3 + N4 + N5 + N6 + N7 + N8 + N9 + N10 + N11, fun k hk => Or.inr ⟨W, H, E, r, codeN W H E, B, P, ?_⟩⟩
  exact ⟨d1 k (by omega), i1 k (by omega), s1 k (by omega), i2 k (by omega), s2 k (by omega), i3 k (by omega), s3 k (by omega), l1 k (by omega), l2 k (by omega), ho k (by omega), hp k (by omega)⟩
theorem FnBoxScores (l : List Int) (_hm : l.length ≤ maxLen) (hw : ∀ x ∈ l, (Lit.int .u8 x).wf = true) : Ev (fun k => laws_FnBoxScores.f k l) true := by
  have h : ∃ N, ∀ k, N ≤ k → scoresOk k l := by
    by_cases h0 : (l.length : Int) > 4096
    · exact ⟨0, fun k _ => Or.inl h0⟩
    · have hb : ∀ x ∈ l, 0 ≤ x ∧ x ≤ 255 := fun x hx => by
        have hq := hw x hx
        have e1 : IntKind.u8.min = 0 := by decide
        have e2 : IntKind.u8.max = 255 := by decide
        simp [Lit.wf] at hq
        rw [e1, e2] at hq
        exact hq
      exact scores_ok l hb (by omega)
  obtain ⟨N, hN⟩ := h
  exact ⟨N, fun k hk => by unfold laws_FnBoxScores.f; exact if_pos (hN k hk)⟩
end Go.Proofs.Ytelfllbjcpndfaa.Pure
