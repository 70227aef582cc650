/-
  The pure statement of the law FnRaces: races are not won by the second player, best nodes keep results, races that are played out end as told, and both sides answer alike, whatever the code.
-/
import Derived.Test.YtbmkhdeeengbmaaRaceAll
import Derived.Test.YtbmkhdeeengbmaaDrawRace
namespace Go.Proofs.Ytbmkhdeeengbmaa.Pure
open Go.RowKit Go.Proofs.Ytbmkhdeeengbmaa.Q Go.Proofs.YtbmkhdeeengbmaaW.PrintWords Go.Proofs.YtbmkhdeeengbmaaW.PrintLast Go.Proofs.YtbmkhdeeengbmaaW.PrintMore Go.Proofs.Ytbmkhdeeengbmaa.B

theorem like_l (l : List Int) (hl : l.length ≤ 1000) (d : Nat) : ∀ i : Int, 0 ≤ i → i + d = l.length → Ev (fun k => laws_likeInts.l0 k l l i) true := by
  induction d with
  | zero =>
    intro i h0 hd
    refine evSucc (fun k => by rw [laws_likeInts.l0]) ?_
    exact evF (by omega) (evS _)
  | succ d ih =>
    intro i h0 hd
    refine evSucc (fun k => by rw [laws_likeInts.l0]) ?_
    refine evT (by omega) (evT h0 (evT (by omega) (evT (by rfl) ?_)))
    rw [wrap_in (by omega) (by omega)]
    exact ih (i + 1) (by omega) (by omega)
theorem like_same (l : List Int) (hl : l.length ≤ 1000) : Ev (fun k => laws_likeInts.f k l l) true := by
  unfold laws_likeInts.f
  exact evT (by rfl) (like_l l hl l.length 0 (by omega) (by omega))
theorem FnRaces (l : List Int) (_hm : l.length ≤ maxLen) (hw : ∀ x ∈ l, (Lit.int .u8 x).wf = true) : Ev (fun k => laws_FnRaces.f k l) true := by
  by_cases h0 : (l.length : Int) > 4096
  · unfold laws_FnRaces.f
    exact evT h0 (evS _)
  · have hb : ∀ x ∈ l, 0 ≤ x ∧ x ≤ 255 := fun x hx => by
      have hq := hw x hx
      have e1 : IntKind.u8.min = 0 := by decide
      have e2 : IntKind.u8.max = 255 := by decide
      simp [Lit.wf] at hq
      rw [e1, e2] at hq
      exact hq
    obtain ⟨⟨n, L, a, s⟩, d1, d2⟩ := with_tot l hb (by omega)
    simp only at d2
    obtain ⟨r, e, B, e3, st, e5, ⟨r1, r2⟩, ⟨r3, r4⟩, ⟨r5, r6⟩, hB, hone⟩ := race_all n L a s (by omega)
    obtain ⟨⟨n2, L2⟩, d3, d4⟩ := spoil_tot l hb (by omega)
    simp only at d4
    obtain ⟨P, e7, ⟨p1, p2⟩, hP, htwo⟩ := play_all n2 L2 (by omega)
    obtain ⟨⟨n3, L3, x3, y3⟩, d5, d6⟩ := with_tot l hb (by omega)
    simp only at d6
    obtain ⟨q, q1, q2⟩ := filled_both n3 L3 x3 y3 (by omega)
    have f1 : Ev (fun k => spec_DrawRaceResult.f k l) (n, L, a, s) := by
      unfold spec_DrawRaceResult.f
      exact evB d1 (evS _)
    have f2 : Ev (fun k => spec_DrawPlayRace.f k l) (n2, L2) := by
      unfold spec_DrawPlayRace.f
      exact evB d3 (evS _)
    have f3 : Ev (fun k => spec_DrawFilledLine.f k l) (n3, L3, x3, y3) := by
      unfold spec_DrawFilledLine.f
      exact evB d5 (evS _)
    obtain ⟨K1, k1⟩ := ev_two (ev_pair r1 r3) (ev_pair r5 (like_same B (by omega)))
    obtain ⟨K2, k2⟩ := ev_pair p1 (like_same P (by omega))
    obtain ⟨K3, k3⟩ := q1
    have hcond1 : ∃ K, ∀ k, K ≤ k → (((spec_RaceResult.f k n L a s = some (r, e) ∧ spec_BestNodes.f k n L a s = some (B, e3)) ∧ spec_IsState.f k n L a s = some (st, e5) ∧ laws_likeInts.f k B B = some true) ∧ oneOk n a s r e B st) := ⟨K1, fun k hk => ⟨⟨pair_some (k1 k hk).1, pair_some (k1 k hk).2⟩, hone⟩⟩
    have hcond2 : ∃ K, ∀ k, K ≤ k → ((spec_PlayRace.f k n2 L2 = some (P, e7) ∧ laws_likeInts.f k P P = some true) ∧ (e7 = 0 → twoF k n2 L2 P = some ())) := by
      by_cases c : e7 = 0
      · obtain ⟨K4, k4⟩ := htwo c
        exact ⟨K2 + K4, fun k hk => ⟨pair_some (k2 k (by omega)), fun _ => k4 k (by omega)⟩⟩
      · exact ⟨K2, fun k hk => ⟨pair_some (k2 k hk), fun z => absurd z c⟩⟩
    unfold laws_FnRaces.f
    refine evF h0 (evB f1 (evB r2 (evB r4 (evB r6 ?_))))
    obtain ⟨M1, m1⟩ := hcond1
    obtain ⟨M2, m2⟩ := hcond2
    have hrest : Ev (fun k => (spec_DrawPlayRace.f k l).bind fun c => (impl_PlayRace.f k c.1 c.2).bind fun pl =>
          if (spec_PlayRace.f k c.1 c.2 = some pl ∧ laws_likeInts.f k pl.1 pl.1 = some true) ∧ (pl.2 = 0 → twoF k c.1 c.2 pl.1 = some ()) then
            (spec_DrawFilledLine.f k l).bind fun d => (impl_FilledLine.f k d.1 d.2.1 d.2.2.1 d.2.2.2).bind fun q => if spec_FilledLine.f k d.1 d.2.1 d.2.2.1 d.2.2.2 = some q then some true else none
          else none) true := by
      refine evB f2 (evB p2 ?_)
      have hlast : Ev (fun k => (spec_DrawFilledLine.f k l).bind fun d => (impl_FilledLine.f k d.1 d.2.1 d.2.2.1 d.2.2.2).bind fun q => if spec_FilledLine.f k d.1 d.2.1 d.2.2.1 d.2.2.2 = some q then some true else none) true := by
        refine evB f3 (evB q2 ⟨K3, fun k hk => ?_⟩)
        exact if_pos (k3 k hk)
      obtain ⟨K5, k5⟩ := hlast
      exact ⟨M2 + K5, fun k hk => (if_pos (m2 k (by omega))).trans (k5 k (by omega))⟩
    obtain ⟨K6, k6⟩ := hrest
    exact ⟨M1 + K6, fun k hk => (if_pos (m1 k (by omega))).trans (k6 k (by omega))⟩
end Go.Proofs.Ytbmkhdeeengbmaa.Pure
