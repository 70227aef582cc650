/-
  The law FnExactGridBoard at all arguments that are within the bounds: 512 cases, reckoned by the kernel.
-/
import Derived.Test.YtjeiifiacjhfoaaQ41
import Derived.Test.YtjeiifiacjhfoaaQ1
namespace Go.Proofs.Ytjeiifiacjhfoaa.B
open Go.RowKit Go.Proofs.Ytjeiifiacjhfoaa.Q Go.Proofs.YtjeiifiacjhfoaaW.PrintWords Go.Proofs.YtjeiifiacjhfoaaW.PrintLast Go.Proofs.YtjeiifiacjhfoaaW.PrintMore

theorem evMono {α : Type} {g : Nat → Option α} {r : α} {k : Nat} (hm : ∀ n, LeO (g n) (g (n + 1))) (h : g k = some r) : Ev g r := by
  refine ⟨k, fun n hn => ?_⟩
  induction hn with
  | refl => exact h
  | step _ ih => exact hm _ _ ih
theorem gevS {α : Type} (r : α) : Ev (fun _ => some r) r := ⟨0, fun _ _ => rfl⟩
theorem gevT {α : Type} {c : Prop} [Decidable c] {g f : Nat → Option α} {r : α} (h : c) (k : Ev g r) : Ev (fun n => if c then g n else f n) r := by
  obtain ⟨K, hK⟩ := k
  exact ⟨K, fun n hn => (if_pos h).trans (hK n hn)⟩
theorem gevF {α : Type} {c : Prop} [Decidable c] {g f : Nat → Option α} {r : α} (h : ¬ c) (k : Ev f r) : Ev (fun n => if c then g n else f n) r := by
  obtain ⟨K, hK⟩ := k
  exact ⟨K, fun n hn => (if_neg h).trans (hK n hn)⟩
theorem gevB {α β : Type} {g : Nat → Option α} {f : Nat → α → Option β} {a : α} {r : β} (h : Ev g a) (k : Ev (fun n => f n a) r) : Ev (fun n => (g n).bind (f n)) r := Ev.bind h k
/-- A bind whose first part is known. -/
theorem gevSucc {α : Type} {g f : Nat → Option α} {r : α} (h : ∀ k, g (k + 1) = f k) (k : Ev f r) : Ev g r := Ev.step h k
theorem gl01In_eq (x lo hi : Int) : spec_l01In.f x lo hi = some (decide (lo ≤ x ∧ x ≤ hi)) := by
  unfold spec_l01In.f
  by_cases h : x ≥ lo
  · rw [if_pos h]
    simp [show lo ≤ x from h]
  · rw [if_neg h]
    simp [show ¬ lo ≤ x from h]
theorem gwithin_eq (x lo hi : Int) : impl_within.f x lo hi = some (decide (lo ≤ x ∧ x ≤ hi)) := by
  unfold impl_within.f
  by_cases h : lo ≤ x
  · rw [if_pos h]
    simp [h]
  · rw [if_neg h]
    simp [h]
theorem grid_cases : ∀ w h k : Fin 8, laws_FnExactGridBoard.f 3000 ((w.val : Int) + 1) ((h.val : Int) + 1) ((k.val : Int) + 1) = some true := by decide +kernel
end Go.Proofs.Ytjeiifiacjhfoaa.B
