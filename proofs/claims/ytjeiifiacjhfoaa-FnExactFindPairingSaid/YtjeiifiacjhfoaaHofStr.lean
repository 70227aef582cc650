/-
  The plain search in a list, and small words on worlds. No condition.
-/
import Derived.Test.YtjeiifiacjhfoaaQ0
import Derived.Shelf.Abstract
namespace Go.Proofs.Ytjeiifiacjhfoaa.Q
open Go.RowKit Go.Proofs.YtjeiifiacjhfoaaW.PrintWords Go.Proofs.YtjeiifiacjhfoaaW.PrintLast Go.Proofs.YtjeiifiacjhfoaaW.PrintMore

/-- The plain search. -/
def idxF {α : Type} (p : α → Option Bool) : List α → Int → Option Int
  | [], _ => some (-1)
  | x :: xs, i => (p x).bind fun b => if b = true then some i else idxF p xs (i + 1)
theorem idxF_range {α : Type} (p : α → Option Bool) (l : List α) : ∀ (i r : Int), idxF p l i = some r → r = -1 ∨ i ≤ r := by
  induction l with
  | nil => intro i r h; simp [idxF] at h; omega
  | cons x xs ih =>
    intro i r h
    simp only [idxF] at h
    obtain ⟨b, hb, h⟩ := Option.bind_eq_some_iff.1 h
    split at h
    · simp at h; omega
    · have := ih _ _ h; omega
def anyF {α : Type} (p : α → Option Bool) : List α → Option Bool
  | [] => some false
  | x :: xs => (p x).bind fun b => if b = true then some true else anyF p xs
theorem anyF_idxF {α : Type} (p : α → Option Bool) (l : List α) : ∀ (i : Int), 0 ≤ i → ∀ b, anyF p l = some b → ∃ r, idxF p l i = some r ∧ decide (0 ≤ r) = b := by
  induction l with
  | nil => intro i hi b h; simp [anyF] at h; subst h; exact ⟨-1, rfl, by decide⟩
  | cons x xs ih =>
    intro i hi b h
    simp only [anyF] at h
    obtain ⟨q, hq, h⟩ := Option.bind_eq_some_iff.1 h
    by_cases e : q = true
    · rw [if_pos e] at h
      simp at h
      subst h
      exact ⟨i, by simp [idxF, hq, e], by simpa using hi⟩
    · rw [if_neg e] at h
      obtain ⟨r, h1, h2⟩ := ih (i + 1) (by omega) b h
      exact ⟨r, by simp [idxF, hq, e, h1], h2⟩

theorem grown_below {w w' : World} {row : Option Nat} (h : Below w.heap.size w w') : w.grownBy w' row := ⟨h.os, h.tape, h.output, h.size, fun k hk _ => h.block k hk⟩
theorem below_of_grown {w w' : World} (h : w.grownBy w' none) : Below w.heap.size w w' := ⟨h.os, h.tape, h.output, h.size, fun k hk => h.block k hk (by simp)⟩
theorem grown_then {a b c : World} {row : Option Nat} (h : a.grownBy b row) (k : b.grownBy c row) : a.grownBy c row :=
  ⟨k.os.trans h.os, k.tape.trans h.tape, k.output.trans h.output, Nat.le_trans h.size k.size, fun i hi hn => (k.block i (Nat.lt_of_lt_of_le hi h.size) hn).trans (h.block i hi hn)⟩
theorem grown_refl (w : World) (row : Option Nat) : w.grownBy w row := ⟨rfl, rfl, rfl, Nat.le_refl _, fun _ _ _ => rfl⟩
theorem grown_drew {a b : World} {row : Option Nat} (h : a.grownBy b row) : a.grownBy b.drew row := ⟨h.os, h.tape, h.output, h.size, h.block⟩

end Go.Proofs.Ytjeiifiacjhfoaa.Q
