/-
  Plain: pairLines always comes to an end with pairs of nodes, whatever the lines.
-/
import Derived.Test.YtjeiifiacjhfoaaOutPairLines
namespace Go.Proofs.Ytjeiifiacjhfoaa.B
open Go.RowKit Go.Proofs.Ytjeiifiacjhfoaa.Q Go.Proofs.YtjeiifiacjhfoaaW.PrintWords Go.Proofs.YtjeiifiacjhfoaaW.PrintLast Go.Proofs.YtjeiifiacjhfoaaW.PrintMore

def OkP (p : Int × Int) : Prop := (0 ≤ p.1 ∧ p.1 ≤ 63) ∧ 0 ≤ p.2 ∧ p.2 ≤ 63
theorem any_total (line : Int) (ps : List (Int × Int)) (h : ∀ p ∈ ps, OkP p) : ∃ b, anyF (hasP line) (ps.map two) = some b := by
  induction ps with
  | nil => exact ⟨false, rfl⟩
  | cons p ps ih =>
    obtain ⟨b, hb⟩ := ih (fun q hq => h q (List.mem_cons_of_mem _ hq))
    have hp := h p List.mem_cons_self
    have e : hasP line (two p) = some (bitB line p.1 && bitB line p.2) := if_pos hp
    rw [List.map_cons]
    simp only [anyF, e, Option.bind_some, hb]
    split
    · exact ⟨_, rfl⟩
    · exact ⟨_, rfl⟩
theorem tryB_total (G : PR → Prop) (g : Int → Option PR) (l : List Int) (h : ∀ b ∈ l, ∃ r, g b = some r ∧ G r) (h0 : G ([], false)) (h1 : ∀ r, G r → G (r.1, true)) : ∃ r, tryB g l = some r ∧ G r := by
  induction l with
  | nil => exact ⟨_, rfl, h0⟩
  | cons b l ih =>
    obtain ⟨r, hr, hg⟩ := h b List.mem_cons_self
    simp only [tryB, hr, Option.bind_some]
    split
    · exact ⟨_, rfl, h1 r hg⟩
    · exact ih (fun x hx => h x (List.mem_cons_of_mem _ hx))
theorem tryA_total (G : PR → Prop) (g : Int → Int → Option PR) (l : List Int) (h : ∀ a ∈ l, ∀ b ∈ l, ∃ r, g a b = some r ∧ G r) (h0 : G ([], false)) (h1 : ∀ r, G r → G (r.1, true)) : ∃ r, tryA g l = some r ∧ G r := by
  induction l with
  | nil => exact ⟨_, rfl, h0⟩
  | cons a l ih =>
    obtain ⟨r, hr, hg⟩ := tryB_total G (g a) l (fun b hb => h a List.mem_cons_self b (List.mem_cons_of_mem _ hb)) h0 h1
    simp only [tryA, hr, Option.bind_some]
    split
    · exact ⟨_, rfl, h1 r hg⟩
    · exact ih (fun x hx y hy => h x (List.mem_cons_of_mem _ hx) y (List.mem_cons_of_mem _ hy))
theorem pair_total (HN : ∀ s, ∃ l, impl_nodesOf.f s = some l ∧ l.length ≤ 1000 ∧ ∀ x ∈ l, 0 ≤ x ∧ x ≤ 63) : ∀ (L : List Int) (ps : List (Int × Int)) (used : Int), (∀ p ∈ ps, OkP p) → ∃ r, pairF L ps used = some r ∧ ∀ p ∈ r.1, OkP p
  | [], ps, used, h => ⟨(ps, true), rfl, h⟩
  | line :: rest, ps, used, h => by
    obtain ⟨b, hb⟩ := any_total line ps h
    obtain ⟨l, hl, hlen, hin⟩ := HN (Go.bits .andNot .i64 line used)
    simp only [pairF, hb, Option.bind_some]
    split
    · exact pair_total HN rest ps used h
    · simp only [hl, Option.bind_some]
      rw [if_pos hlen]
      refine tryA_total (fun r => ∀ p ∈ r.1, OkP p) _ l (fun a ha c hc => ?_) (by simp) (fun r hr => hr)
      have h1 := hin a ha
      have h2 := hin c hc
      rw [if_pos ⟨h1, h2⟩]
      refine pair_total HN rest _ _ (fun p hp => ?_)
      rcases List.mem_append.1 hp with hp | hp
      · exact h p hp
      · rw [List.mem_singleton.1 hp]
        exact ⟨h1, h2⟩
end Go.Proofs.Ytjeiifiacjhfoaa.B
