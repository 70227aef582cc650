/-
  Plain lemmas: a search or a choice by a condition that is told at every element of a list, with enough rounds. No Go in them.
-/
import Derived.Test.YtlnngnccengdjaaHofInts
import Derived.Test.YtlnngnccengdjaaDelFunc
import Derived.Test.YtlnngnccengdjaaEvBase
namespace Go.Proofs.Ytlnngnccengdjaa.B
open Go.RowKit Go.Proofs.Ytlnngnccengdjaa.Q Go.Proofs.YtlnngnccengdjaaW.PrintWords Go.Proofs.YtlnngnccengdjaaW.PrintLast

theorem anyF_ev (p : Nat → Int → Option Bool) (q : Int → Bool) (l : List Int) : (∀ x, x ∈ l → Ev (fun k => p k x) (q x)) → Ev (fun k => anyF (p k) l) (l.any q) := by
  induction l with
  | nil => intro h; exact evS _
  | cons x l ih =>
    intro h
    have e := ih (fun y hy => h y (List.mem_cons_of_mem _ hy))
    simp only [anyF, List.any_cons]
    refine evB (h x List.mem_cons_self) ?_
    cases q x with
    | true => exact evT rfl (evS _)
    | false => exact evF (by simp) (evE (by simp) e)
theorem delP_ev (p : Nat → Int → Option Bool) (q : Int → Bool) (l : List Int) : (∀ x, x ∈ l → Ev (fun k => p k x) (q x)) → Ev (fun k => delP (p k) l) (l.filter (fun x => !q x)) := by
  induction l with
  | nil => intro h; exact evS _
  | cons x l ih =>
    intro h
    have e := ih (fun y hy => h y (List.mem_cons_of_mem _ hy))
    simp only [delP, List.filter_cons]
    refine evB (h x List.mem_cons_self) (evB e ?_)
    cases q x with
    | true => exact evE (by simp) (evS _)
    | false => exact evE (by simp) (evS _)
theorem anyF_le {p q : Int → Option Bool} (h : ∀ i, LeO (p i) (q i)) (l : List Int) : LeO (anyF p l) (anyF q l) := by
  induction l with
  | nil => exact LeO.refl _
  | cons x l ih => exact LeO.bind (h x) (fun b => LeO.ite (LeO.refl _) ih)
theorem delP_le {p q : Int → Option Bool} (h : ∀ i, LeO (p i) (q i)) (l : List Int) : LeO (delP p l) (delP q l) := by
  induction l with
  | nil => exact LeO.refl _
  | cons x l ih => exact LeO.bind (h x) (fun b => LeO.bind ih (fun t => LeO.refl _))
end Go.Proofs.Ytlnngnccengdjaa.B
