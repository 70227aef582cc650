/-
  The codes of tracks, cars and moves: program and reference answer alike.
-/
import Derived.Test.YtjblefcdihmdbaaDoorMovePure
import Derived.Test.YtjblefcdihmdbaaDoorFirstTwo

import Derived.Test.YtjblefcdihmdbaaDoorQ11
import Derived.Test.YtjblefcdihmdbaaDoorQ5
namespace Go.Proofs.YtjblefcdihmdbaaDoor.B
open Go.RowKit Go.Proofs.YtjblefcdihmdbaaDoor.Q Go.Proofs.YtjblefcdihmdbaaDoorW.PrintWords Go.Proofs.YtjblefcdihmdbaaDoorW.PrintLast

def okCar (l : List ByteArray) (c0 c1 c2 c3 : Int) : Bool := (sgn l c0 c1 != 35) && speedOk c2 c3
def carC (l : List ByteArray) (c0 c1 c2 c3 m : Int) : Int := if isT l = true then if okCar l c0 c1 c2 c3 = true ∧ 0 ≤ m ∧ m ≤ 8 then 0 else 2 else 1
theorem carC_zero {l : List ByteArray} {c0 c1 c2 c3 m : Int} (h : carC l c0 c1 c2 c3 m = 0) : isT l = true ∧ sgn l c0 c1 ≠ 35 ∧ (-5 ≤ c2 ∧ c2 ≤ 5) ∧ (-5 ≤ c3 ∧ c3 ≤ 5) ∧ 0 ≤ m ∧ m ≤ 8 := by
  unfold carC at h
  split at h
  · rename_i h1
    split at h
    · rename_i h2
      obtain ⟨h2, h3, h4⟩ := h2
      unfold okCar at h2
      simp only [Bool.and_eq_true] at h2
      have := (speedOk_iff _ _).1 h2.2
      exact ⟨h1, by simpa using h2.1, this.1, this.2, h3, h4⟩
    · omega
  · omega
theorem carCode_impl (l : List ByteArray) (hs : Small l) (c0 c1 c2 c3 m : Int) : Ev (fun k => impl_carCode.f k l c0 c1 c2 c3 m) (carC l c0 c1 c2 c3 m) := by
  unfold impl_carCode.f carC
  refine evG (track_impl l hs) ?_
  by_cases h : isT l = true
  · refine evT h ?_
    rw [if_pos h]
    refine evG (isCar_impl h c0 c1 c2 c3) ?_
    by_cases hc : okCar l c0 c1 c2 c3 = true
    · refine evT hc ?_
      by_cases hm : 0 ≤ m ∧ m ≤ 8
      · rw [if_pos ⟨hc, hm.1, hm.2⟩]
        refine evG (within_eq hm.1 hm.2) (evB (first_one true 2) (evS _))
      · rw [if_neg (fun q => hm q.2)]
        refine evG (within_ne hm) (evB (first_one false 2) (evS _))
    · refine evF hc ?_
      rw [if_neg (fun q => hc q.1)]
      exact evB (first_one false 2) (evS _)
  · refine evF h ?_
    rw [if_neg h]
    exact evS _
theorem carCode_spec (l : List ByteArray) (c0 c1 c2 c3 m : Int) : Ev (fun k => spec_l08Car.f k l c0 c1 c2 c3 m) (carC l c0 c1 c2 c3 m) := by
  unfold spec_l08Car.f carC
  refine evB (track_spec l) ?_
  by_cases h : isT l = true
  · refine evT h ?_
    rw [if_pos h]
    refine evG (free_spec h c0 c1) ?_
    by_cases hc : (sgn l c0 c1 != 35) = true
    · refine evT hc ?_
      by_cases h2 : -5 ≤ c2 ∧ c2 ≤ 5
      · refine evG (in_eq h2.1 h2.2) (evT rfl ?_)
        by_cases h3 : -5 ≤ c3 ∧ c3 ≤ 5
        · refine evG (in_eq h3.1 h3.2) (evT rfl ?_)
          have ok : okCar l c0 c1 c2 c3 = true := by unfold okCar; rw [hc, (speedOk_iff c2 c3).2 ⟨h2, h3⟩]; rfl
          by_cases hm : 0 ≤ m ∧ m ≤ 8
          · refine evG (in_eq hm.1 hm.2) (evT rfl ?_)
            rw [if_pos ⟨ok, hm.1, hm.2⟩]
            exact evS _
          · refine evG (in_ne hm) (evF (by simp) ?_)
            rw [if_neg (fun q => hm q.2)]
            exact evS _
        · refine evG (in_ne h3) (evF (by simp) ?_)
          rw [if_neg (fun q => by unfold okCar at q; simp only [Bool.and_eq_true] at q; exact h3 ((speedOk_iff _ _).1 q.1.2).2)]
          exact evS _
      · refine evG (in_ne h2) (evF (by simp) ?_)
        rw [if_neg (fun q => by unfold okCar at q; simp only [Bool.and_eq_true] at q; exact h2 ((speedOk_iff _ _).1 q.1.2).1)]
        exact evS _
    · refine evF hc ?_
      rw [if_neg (fun q => by unfold okCar at q; simp only [Bool.and_eq_true] at q; exact hc q.1.1)]
      exact evS _
  · refine evF h ?_
    rw [if_neg h]
    exact evS _
end Go.Proofs.YtjblefcdihmdbaaDoor.B
