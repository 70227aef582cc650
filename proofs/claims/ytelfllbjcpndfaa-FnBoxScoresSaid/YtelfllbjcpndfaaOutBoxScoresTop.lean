/-
  The contract of the law FnBoxScores, out of its walk: when all that it asks holds, it answers so.
-/
import Derived.Test.YtelfllbjcpndfaaOutBoxScores
namespace Go.Proofs.Ytelfllbjcpndfaa.Q
open Go.RowKit Go.Proofs.YtelfllbjcpndfaaW.PrintWords Go.Proofs.YtelfllbjcpndfaaW.PrintLast Go.Proofs.YtelfllbjcpndfaaW.PrintMore

/-- All that the law asks. -/
def scoresOk (k : Nat) (l : List Int) : Prop := (l.length : Int) > 4096 ∨ ∃ (W H E r e1 : Int) (B P : List Int),
      spec_DrawNetScore.f k l = some (W, H, E) ∧ impl_NetScore.f k W H E = some (r, e1) ∧ spec_NetScore.f k W H E = some (r, e1) ∧ impl_BestEdges.f k W H E = some (B, e1) ∧ spec_BestEdges.f k W H E = some (B, e1) ∧
      impl_PlayBoxes.f k W H E = some (P, e1) ∧ spec_PlayBoxes.f k W H E = some (P, e1) ∧ laws_likeInts.f k B B = some true ∧ laws_likeInts.f k P P = some true ∧ (e1 = 0 → ∃ F T E2, OneOk k W H E r B P F T E2) ∧ ∀ x : Nat, 1 ≤ x → x ≤ 4 → heapOk k x
noncomputable def laws_FnBoxScores.f (k : Nat) (l : List Int) : Option Bool := @ite _ (scoresOk k l) (Classical.propDecidable _) (some true) none
theorem laws_FnBoxScores.calls (k : Nat) (A0 : Option Addr) (c0 : Nat) (l0 : List Int) (r : Bool) (w : World) (hr0 : Kd.C (Kd.int .u8) w A0 l0.length l0) (hc0 : l0.length ≤ c0) (h : laws_FnBoxScores.f k l0 = some r) :
    Calls Try.prog 3 #[.slice A0 l0.length c0] w fun e w' => e = .returned (.bool r) ∧ Below w.heap.size w w' := by
  unfold laws_FnBoxScores.f at h
  split at h
  · rename_i g
    obtain rfl := Option.some.inj h
    by_cases h0 : (l0.length : Int) > 4096
    · exact scores_big A0 c0 l0 w hr0 hc0 h0
    · obtain g | ⟨W, H, E, q, e1, B, P, k1, k2, k3, k4, k5, k6, k7, k8, k9, k10, k11⟩ := g
      · exact absurd g h0
      · exact scores_good k A0 c0 l0 W H E q e1 B P w hr0 hc0 h0 ⟨k1⟩ ⟨k2⟩ ⟨k3⟩ ⟨k4⟩ ⟨k5⟩ ⟨k6⟩ ⟨k7⟩ ⟨k8⟩ ⟨k9⟩ ⟨k10⟩ ⟨k11⟩
  · cases h
end Go.Proofs.Ytelfllbjcpndfaa.Q
