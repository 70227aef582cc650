/-
  A race that is played by best nodes ends as its result says. Boards alone, as the facts ask.
-/
import Derived.Test.YtbmkhdeeengbmaaRaceSteal
import Derived.Test.YtbmkhdeeengbmaaRacePlayLaw
namespace Go.Proofs.Ytbmkhdeeengbmaa.B
open Go.RowKit Go.Proofs.Ytbmkhdeeengbmaa.Q Go.Proofs.YtbmkhdeeengbmaaW.PrintWords Go.Proofs.YtbmkhdeeengbmaaW.PrintLast Go.Proofs.YtbmkhdeeengbmaaW.PrintMore

/-- The sets behind a play: of whom is to move at its start, and of the other. -/
def endS : List Int → Nat → Nat → Nat × Nat
  | [], o, t => (o, t)
  | p :: l, o, t => ((endS l t (put o p)).2, (endS l t (put o p)).1)
/-- Every node is in range and not taken when it is taken. -/
def fairL (n : Int) : List Int → Nat → Nat → Prop
  | [], _, _ => True
  | p :: l, o, t => p ∈ freeN n o t ∧ fairL n l t (put o p)
section
variable {n : Int} {L : List Int} (hb : boardB n L = true)
include hb
omit hb in
theorem bestO_at {o t : Nat} {p : Int} {rest : List Int} (h : bestO n L o t = p :: rest) : p ∈ freeN n o t ∧ bh L (rc n L) o t p = rc n L o t := by
  have hm : p ∈ bestO n L o t := by rw [h]; exact List.mem_cons_self
  obtain ⟨h1, h2⟩ := List.mem_filter.1 hm
  exact ⟨h1, beq_iff_eq.1 h2⟩
omit hb in
theorem play_end (m : Nat) : ∀ o t : Nat, Two n.toNat o t → fl L o = false → fl L t = false → fr o t n.toNat = m → fairL n (playM n L m o t) o t ∧
    (rc n L o t = 1 → fl L (endS (playM n L m o t) o t).1 = true ∧ fl L (endS (playM n L m o t) o t).2 = false) ∧
    (rc n L o t = -1 → fl L (endS (playM n L m o t) o t).1 = false ∧ fl L (endS (playM n L m o t) o t).2 = true) ∧
    (rc n L o t = 0 → fl L (endS (playM n L m o t) o t).1 = false ∧ fl L (endS (playM n L m o t) o t).2 = false ∧ (playM n L m o t).length = m) := by
  induction m with
  | zero =>
    intro o t h2 fo ft hm
    have e : freeN n o t = [] := freeN_nil.2 hm
    have hr := rc_nil (L := L) e
    exact ⟨trivial, fun h => by omega, fun h => by omega, fun _ => ⟨fo, ft, rfl⟩⟩
  | succ m ih =>
    intro o t h2 fo ft hm
    have hf : freeN n o t ≠ [] := fun z => by have := freeN_nil.1 z; omega
    obtain ⟨p, rest, hq, hp⟩ := bestO_cons (L := L) hf
    have hbest := (bestO_at hq).2
    have hput := put_two hp h2
    have hfr := put_fr hp
    have hs := rc_small n L t (put o p)
    have e : playM n L (m + 1) o t = p :: playM n L m t (put o p) := by
      simp only [playM]
      rw [if_neg (by rw [ft]; decide), hq]
    rw [e]
    simp only [endS, fairL, List.length_cons]
    by_cases c : fl L (put o p) = true
    · have e0 : playM n L m t (put o p) = [] := playM_stop n L m t (put o p) c
      rw [e0]
      unfold bh at hbest
      rw [if_pos c] at hbest
      exact ⟨⟨hp, trivial⟩, fun _ => ⟨c, ft⟩, fun h => by omega, fun h => by omega⟩
    · have c2 : fl L (put o p) = false := by simpa using c
      unfold bh at hbest
      rw [if_neg c] at hbest
      obtain ⟨i0, i1, i2, i3⟩ := ih t (put o p) hput.swap ft c2 (by rw [fr_swap (put o p) t]; omega)
      refine ⟨⟨hp, i0⟩, fun h => ?_, fun h => ?_, fun h => ?_⟩
      · have := i2 (by omega)
        exact ⟨this.2, this.1⟩
      · have := i1 (by omega)
        exact ⟨this.2, this.1⟩
      · have := i3 (by omega)
        exact ⟨this.2.1, this.1, by omega⟩
end
end Go.Proofs.Ytbmkhdeeengbmaa.B
