/-
  The pure statement of the law FnFields: moves keep fields fair, unions have the lines of both, exchanged sides go back, fields come back from their texts, and both sides answer alike, whatever the code.
-/
import Derived.Test.YtlmohkbimnhecaaGreatDoorOutFieldsTop
import Derived.Test.YtlmohkbimnhecaaGreatDoorFieldsBoth
import Derived.Test.YtlmohkbimnhecaaGreatDoorDraws
namespace Go.Proofs.YtlmohkbimnhecaaGreatDoor.Pure
open Go.RowKit Go.Proofs.YtlmohkbimnhecaaGreatDoor.Q Go.Proofs.YtlmohkbimnhecaaGreatDoorW.PrintWords Go.Proofs.YtlmohkbimnhecaaGreatDoorW.PrintLast Go.Proofs.YtlmohkbimnhecaaGreatDoorW.PrintMore Go.Proofs.YtlmohkbimnhecaaGreatDoor.B

theorem all_below {p : Nat → Nat → Prop} (n : Nat) (h : ∀ i, i < n → ∃ N, ∀ k, N ≤ k → p i k) : ∃ N, ∀ k, N ≤ k → ∀ i, i < n → p i k := by
  induction n with
  | zero => exact ⟨0, fun _ _ i hi => absurd hi (Nat.not_lt_zero _)⟩
  | succ n ih =>
    obtain ⟨N, hN⟩ := ih (fun i hi => h i (by omega))
    obtain ⟨M, hM⟩ := h n (by omega)
    refine ⟨N + M, fun k hk i hi => ?_⟩
    by_cases c : i = n
    · subst c
      exact hM k (by omega)
    · exact hN k (by omega) i (by omega)
theorem union_ok (mP mL mR mB hP hL hR hB : Int) (h1 : impl_IsField.f mP mL mR mB = some true) (h2 : impl_IsField.f hP hL hR hB = some true) (h8 : mP + hP ≤ 8) :
    ∃ N, ∀ k, N ≤ k → unionOk k mP mL mR mB hP hL hR hB (mP + hP) (outU mP hL (hP - 1).toNat 1 mL) (Go.bits .or .i64 mR (shl .i64 hR mP)) (Go.bits .or .i64 mB (shl .i64 hB mP)) := by
  obtain ⟨p, L, a, b, rfl, rfl, rfl, rfl, hF⟩ := isField_fld mP mL mR mB h1
  obtain ⟨q, M, c, d, rfl, rfl, rfl, rfl, hG⟩ := isField_fld hP hL hR hB h2
  have hpq : p + q ≤ 8 := by omega
  obtain ⟨U, V, W, e1, e2, e3, hU, hl⟩ := union_fld hF hG hpq
  rw [e1, e2, e3, show (p : Int) + (q : Int) = ((p + q : Nat) : Int) by omega]
  obtain ⟨N, hN⟩ := all_below (p := fun x k => ∀ y, y < x → ∃ b0 : Bool, impl_AreJoined.f k ((p + q : Nat) : Int) (U : Int) (V : Int) (W : Int) (x : Int) (y : Int) = some (b0, 0) ∧
      ((x : Int) < (p : Int) → ∃ e, impl_AreJoined.f k (p : Int) (L : Int) (a : Int) (b : Int) (x : Int) (y : Int) = some (b0, e)) ∧ (¬ (x : Int) < (p : Int) → (y : Int) ≥ (p : Int) → ∃ e, impl_AreJoined.f k (q : Int) (M : Int) (c : Int) (d : Int) ((x : Int) - (p : Int)) ((y : Int) - (p : Int)) = some (b0, e)) ∧ (¬ (x : Int) < (p : Int) → ¬ (y : Int) ≥ (p : Int) → b0 = false)) (p + q) (fun x hx => by
    obtain ⟨N, hN⟩ := all_below (p := fun y k => ∃ b0 : Bool, impl_AreJoined.f k ((p + q : Nat) : Int) (U : Int) (V : Int) (W : Int) (x : Int) (y : Int) = some (b0, 0) ∧
      ((x : Int) < (p : Int) → ∃ e, impl_AreJoined.f k (p : Int) (L : Int) (a : Int) (b : Int) (x : Int) (y : Int) = some (b0, e)) ∧ (¬ (x : Int) < (p : Int) → (y : Int) ≥ (p : Int) → ∃ e, impl_AreJoined.f k (q : Int) (M : Int) (c : Int) (d : Int) ((x : Int) - (p : Int)) ((y : Int) - (p : Int)) = some (b0, e)) ∧ (¬ (x : Int) < (p : Int) → ¬ (y : Int) ≥ (p : Int) → b0 = false)) x (fun y hy => by
      have hj := hl x y hy hx
      obtain ⟨K1, k1⟩ := joined_fld hU (x : Int) (y : Int) (by omega) (by omega) (by omega)
      by_cases hp : x < p
      · rw [if_pos hp] at hj
        obtain ⟨K2, k2⟩ := joined_fld hF (x : Int) (y : Int) (by omega) (by omega) (by omega)
        exact ⟨K1 + K2, fun k hk => ⟨jn (U : Int) (x : Int) (y : Int), k1 k (by omega), fun _ => ⟨0, by rw [hj]; exact k2 k (by omega)⟩, fun h => absurd (show (x : Int) < (p : Int) by omega) h, fun h => absurd (show (x : Int) < (p : Int) by omega) h⟩⟩
      · rw [if_neg hp] at hj
        by_cases hy2 : p ≤ y
        · rw [if_pos hy2] at hj
          obtain ⟨K2, k2⟩ := joined_fld hG ((x : Int) - (p : Int)) ((y : Int) - (p : Int)) (by omega) (by omega) (by omega)
          rw [show ((x - p : Nat) : Int) = (x : Int) - (p : Int) by omega, show ((y - p : Nat) : Int) = (y : Int) - (p : Int) by omega] at hj
          exact ⟨K1 + K2, fun k hk => ⟨jn (U : Int) (x : Int) (y : Int), k1 k (by omega), fun h => absurd h (by omega), fun _ _ => ⟨0, by rw [hj]; exact k2 k (by omega)⟩, fun _ h => absurd (show (y : Int) ≥ (p : Int) by omega) h⟩⟩
        · rw [if_neg hy2] at hj
          exact ⟨K1, fun k hk => ⟨jn (U : Int) (x : Int) (y : Int), k1 k hk, fun h => absurd h (by omega), fun _ h => absurd h (by omega), fun _ _ => hj⟩⟩)
    exact ⟨N, fun k hk y hy => hN k hk y hy⟩)
  exact ⟨N, fun k hk => ⟨by omega, by omega, fun x y hx hy => hN k hk x (by omega) y hy⟩⟩
theorem fields_ok (l : List Int) (hb : ∀ x ∈ l, 0 ≤ x ∧ x ≤ 255) (hl : l.length ≤ 4096) : ∃ N, ∀ k, N ≤ k → fieldsOk k l := by
  obtain ⟨⟨fP, fL, fR, fB, gm, pl, pt⟩, ⟨N1, d1⟩, _⟩ := drawColour_tot l hb hl
  obtain ⟨⟨nP, nL, nR, nB, e1⟩, ⟨N2, q1⟩, ⟨N3, q2⟩, q3⟩ := colour_both fP fL fR fB gm pl pt
  obtain ⟨S, e3, hS, ⟨N4, s1⟩, ⟨N5, s2⟩, s3⟩ := points_both fP fL fR fB gm pl
  obtain ⟨N6, lk⟩ := like_same S (by omega)
  obtain ⟨b0_, hb0⟩ := field_total fP fL fR fB
  have hb1 : spec_IsField.f fP fL fR fB = some b0_ := by
    unfold spec_IsField.f
    rw [isField_same, hb0]
    rfl
  have hone : ∃ N, ∀ k, N ≤ k → (e1 = 0 → impl_IsFairField.f k nP nL nR nB gm = some (true, 0) ∧ ∃ X, impl_FieldText.f k nP nL nR nB = some (X, 0) ∧ impl_ParseField.f k X = some (nP, nL, nR, nB, 0) ∧ laws_hasInt.f k S pt = some true) := by
    by_cases he : e1 = 0
    · obtain ⟨z1, z2, z3, z4, z5⟩ := q3 he
      simp only [Prod.mk.injEq] at z5
      obtain ⟨y1, y2, y3, y4, _⟩ := z5
      obtain ⟨⟨M1, m1⟩, ⟨X, ⟨M2, m2⟩, ⟨M3, m3⟩⟩, ⟨M4, m4⟩⟩ := moved fP fL fR fB gm pl pt z1 z2 z3 z4
      rw [← s3 z1 z2] at m4
      subst y1 y2 y3 y4
      exact ⟨M1 + M2 + M3 + M4, fun k hk _ => ⟨m1 k (by omega), X, m2 k (by omega), m3 k (by omega), m4 k (by omega)⟩⟩
    · exact ⟨0, fun k _ h => absurd h he⟩
  obtain ⟨N7, hone⟩ := hone
  obtain ⟨⟨mP, mL, mR, mB, hP, hL, hR, hB⟩, ⟨N8, d2⟩, _⟩ := drawUnion_tot l hb hl
  obtain ⟨⟨uP, uL, uR, uB, e4⟩, ⟨N9, u1⟩, ⟨N10, u2⟩, u3⟩ := union_both mP mL mR mB hP hL hR hB
  have hun : ∃ N, ∀ k, N ≤ k → (e4 = 0 → unionOk k mP mL mR mB hP hL hR hB uP uL uR uB) := by
    by_cases he : e4 = 0
    · obtain ⟨z1, z2, z3, z4⟩ := u3 he
      simp only [Prod.mk.injEq] at z4
      obtain ⟨y1, y2, y3, y4, _⟩ := z4
      obtain ⟨M1, m1⟩ := union_ok mP mL mR mB hP hL hR hB z1 z2 z3
      rw [y1, y2, y3, y4]
      exact ⟨M1, fun k hk _ => m1 k hk⟩
    · exact ⟨0, fun k _ h => absurd h he⟩
  obtain ⟨N11, hun⟩ := hun
  obtain ⟨⟨xP, xL, xR, xB⟩, ⟨N12, d3⟩, _⟩ := drawExchange_tot l hb hl
  obtain ⟨⟨tP, tL, tR, tB, e5⟩, t1, t2, t3⟩ := exchange_both xP xL xR xB
  obtain ⟨⟨dP, dL, dR, dB, x4⟩, ⟨N13, d4⟩, _⟩ := drawFair_tot l hb hl
  obtain ⟨f6, e6, ⟨N14, g1⟩, ⟨N15, g2⟩⟩ := fair_both dP dL dR dB x4
  obtain ⟨⟨jP, jL, jR, jB, x5, y5⟩, ⟨N16, d5⟩, _⟩ := drawJoined_tot l hb hl
  obtain ⟨f7, e7, ⟨N17, j1⟩, j2⟩ := joined_both jP jL jR jB x5 y5
  obtain ⟨T6, ⟨N18, d6⟩, hT6⟩ := drawParse_tot l hb hl
  have hp := parse_both T6.data.toList (by have : T6.data.toList.length = T6.size := Array.length_toList
                                           omega)
  rw [BA_eta] at hp
  obtain ⟨rP, rL, rR, rB, e8, ⟨N19, r1⟩, ⟨N20, r2⟩⟩ := hp
  obtain ⟨T9, e9, ⟨N21, w1⟩, ⟨N22, w2⟩⟩ := both_text xP xL xR xB
  refine ⟨N1 + N2 + N3 + N4 + N5 + N6 + N7 + N8 + N9 + N10 + N11 + N12 + N13 + N14 + N15 + N16 + N17 + N18 + N19 + N20 + N21 + N22, fun k hk => Or.inr ⟨fP, fL, fR, fB, gm, pl, pt, nP, nL, nR, nB, e1, e3, mP, mL, mR, mB, hP, hL, hR, hB, uP, uL, uR, uB, e4, xP, xL, xR, xB, tP, tL, tR, tB, e5, dP, dL, dR, dB, x4, e6, jP, jL, jR, jB, x5, y5, e7, rP, rL, rR, rB, e8, e9, S, b0_, f6, f7, T6, T9, ?_⟩⟩
  exact ⟨d1 k (by omega), q2 k (by omega), q1 k (by omega), s2 k (by omega), s1 k (by omega), lk k (by omega), hb0, hb1, hone k (by omega), d2 k (by omega), u2 k (by omega), u1 k (by omega), hun k (by omega), d3 k (by omega), t1, t2, t3, d4 k (by omega), g1 k (by omega), g2 k (by omega), d5 k (by omega), j1 k (by omega), j2, d6 k (by omega), r2 k (by omega), r1 k (by omega), w2 k (by omega), w1 k (by omega)⟩
theorem FnFields (l : List Int) (_hm : l.length ≤ maxLen) (hw : ∀ x ∈ l, (Lit.int .u8 x).wf = true) : Ev (fun k => laws_FnFields.f k l) true := by
  have h : ∃ N, ∀ k, N ≤ k → fieldsOk k l := by
    by_cases h0 : (l.length : Int) > 4096
    · exact ⟨0, fun k _ => Or.inl h0⟩
    · have hb : ∀ x ∈ l, 0 ≤ x ∧ x ≤ 255 := fun x hx => by
        have hq := hw x hx
        have e1 : IntKind.u8.min = 0 := by decide
        have e2 : IntKind.u8.max = 255 := by decide
        simp [Lit.wf] at hq
        rw [e1, e2] at hq
        exact hq
      exact fields_ok l hb (by omega)
  obtain ⟨N, hN⟩ := h
  exact ⟨N, fun k hk => by unfold laws_FnFields.f; exact if_pos (hN k hk)⟩
end Go.Proofs.YtlmohkbimnhecaaGreatDoor.Pure
