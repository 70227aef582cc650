/-
  Plain: searches and choices tell no less where their conditions tell no less. No Go in it.
-/
import Derived.Test.YtlnngnccengdjaaHofInts
import Derived.Test.YtlnngnccengdjaaDelFunc
namespace Go.Proofs.Ytlnngnccengdjaa.Q
open Go.RowKit Go.Proofs.YtlnngnccengdjaaW.PrintWords Go.Proofs.YtlnngnccengdjaaW.PrintLast

theorem anyF_mono {p q : Int → Option Bool} (h : ∀ i, LeO (p i) (q i)) (l : List Int) : LeO (anyF p l) (anyF q l) := by
  induction l with
  | nil => exact LeO.refl _
  | cons x l ih => exact LeO.bind (h x) (fun b => LeO.ite (LeO.refl _) ih)
theorem delP_mono {p q : Int → Option Bool} (h : ∀ i, LeO (p i) (q i)) (l : List Int) : LeO (delP p l) (delP q l) := by
  induction l with
  | nil => exact LeO.refl _
  | cons x l ih => exact LeO.bind (h x) (fun b => LeO.bind ih (fun t => LeO.refl _))
end Go.Proofs.Ytlnngnccengdjaa.Q
