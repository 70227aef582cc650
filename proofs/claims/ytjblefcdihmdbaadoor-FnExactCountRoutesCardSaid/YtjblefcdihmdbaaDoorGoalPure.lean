/-
  Where a race starts, and which squares are goals: program and reference alike.
-/
import Derived.Test.YtjblefcdihmdbaaDoorBfsPure
import Derived.Test.YtjblefcdihmdbaaDoorFirstPure
import Derived.Test.YtjblefcdihmdbaaDoorQ4
namespace Go.Proofs.YtjblefcdihmdbaaDoor.B
open Go.RowKit Go.Proofs.YtjblefcdihmdbaaDoor.Q Go.Proofs.YtjblefcdihmdbaaDoorW.PrintWords Go.Proofs.YtjblefcdihmdbaaDoorW.PrintLast

theorem Ev.uniq {α : Type} {f : Nat → Option α} {a b : α} (h1 : Ev f a) (h2 : Ev f b) : a = b := by
  obtain ⟨K1, k1⟩ := h1
  obtain ⟨K2, k2⟩ := h2
  exact Option.some.inj ((k1 (K1 + K2) (by omega)).symm.trans (k2 (K1 + K2) (by omega)))
theorem first_good {l : List ByteArray} (h : isT l = true) : ∃ x y : Int, Ev (fun k => spec_l08First.f k l) (x, y, 0, 0) ∧ impl_firstCar.f l = some (x, y, 0, 0) ∧ Good l (x, y, 0, 0) ∧ sgn l x y = 83 := by
  obtain ⟨x, y, h1, h2, h3, h4, h5, h6⟩ := first_both h
  obtain ⟨x', y', hz, _⟩ := idxL_some h
  obtain ⟨_, p2, _, p4, p5, _⟩ := isT_parts h
  have := firstScan l (by omega) (fun s hs => by have := (p5 s hs).1; omega) l [] 0 rfl rfl
  rw [hz] at this
  have e := Ev.uniq h1 this
  simp only [Prod.mk.injEq] at e
  obtain ⟨rfl, rfl, _⟩ := e
  obtain ⟨_, _, _, g4, _, _⟩ := posS_find l 0 x y hz
  rw [show y - 0 = y by omega] at g4
  have hs : sgn l x y = 83 := by
    rw [sgn_in ⟨h5, h6⟩ ⟨h3, h4⟩]
    have e2 : Lib.indexByte (bl (rdOf ByteArray.empty l y)) 83 = (x.toNat : Int) := by omega
    have e3 := (Lib.indexByte_some e2).1
    obtain ⟨e4, e5⟩ := List.getElem?_eq_some_iff.1 e3
    have e6 : bl (rdOf ByteArray.empty l y) = (bl (rdOf ByteArray.empty l y)).take x.toNat ++ 83 :: (bl (rdOf ByteArray.empty l y)).drop (x.toNat + 1) := by
      conv => lhs; rw [← List.take_append_drop x.toNat (bl (rdOf ByteArray.empty l y)), List.drop_eq_getElem_cons e4, e5]
    rw [bt_mid e6 (by rw [List.length_take]; omega)]
    rfl
  exact ⟨x, y, h1, h2, ⟨by show sgn l x y ≠ 35; rw [hs]; decide, by simp, by simp⟩, hs⟩
def goalB (l : List ByteArray) (q : Q4) : Bool := sgn l q.1 q.2.1 == 71
theorem goal_impl {l : List ByteArray} (h : isT l = true) (q : Q4) : impl_isGoal.f l q.1 q.2.1 q.2.2.1 q.2.2.2 = some (goalB l q) := by
  unfold impl_isGoal.f
  rw [sign_impl h]
  rfl
theorem goal_spec {l : List ByteArray} (h : isT l = true) {q : Q4} (hg : Good l q) : spec_l08Goal.f l q.1 q.2.1 q.2.2.1 q.2.2.2 = some (goalB l q) := by
  obtain ⟨cy, cx⟩ := sgn_range hg.1
  obtain ⟨h1, h2, h3, h4, h5⟩ := isT_rows h
  have hz := h5 q.2.1 cy.1 cy.2
  unfold spec_l08Goal.f goalB
  rw [if_pos cy.1, if_pos cy.2, if_pos cx.1, if_pos (by rw [hz]; exact cx.2), sgn_in cy cx]
end Go.Proofs.YtjblefcdihmdbaaDoor.B
