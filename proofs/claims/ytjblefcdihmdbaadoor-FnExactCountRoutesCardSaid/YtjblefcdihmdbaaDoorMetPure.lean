/-
  What the reference keeps of the cars that have been met: a bool at each car's number.
-/
import Derived.Test.YtjblefcdihmdbaaDoorBfsPure
import Derived.Test.YtjblefcdihmdbaaDoorQ1
namespace Go.Proofs.YtjblefcdihmdbaaDoor.B
open Go.RowKit Go.Proofs.YtjblefcdihmdbaaDoor.Q Go.Proofs.YtjblefcdihmdbaaDoorW.PrintWords Go.Proofs.YtjblefcdihmdbaaDoorW.PrintLast

theorem number_eq {q : Q4} (h : (0 ≤ q.1 ∧ q.1 < 16) ∧ (0 ≤ q.2.1 ∧ q.2.1 < 16) ∧ (-5 ≤ q.2.2.1 ∧ q.2.2.1 ≤ 5) ∧ (-5 ≤ q.2.2.2 ∧ q.2.2.2 ≤ 5)) : spec_l08Number.f q.1 q.2.1 q.2.2.1 q.2.2.2 = some (numQ q) := by
  unfold spec_l08Number.f numQ
  congr 1
  rw [wrap_in (x := q.2.1 * 16) (by omega) (by omega), wrap_in (x := q.2.1 * 16 + q.1) (by omega) (by omega), wrap_in (x := (q.2.1 * 16 + q.1) * 11) (by omega) (by omega), wrap_in (x := (q.2.1 * 16 + q.1) * 11 + q.2.2.1) (by omega) (by omega), wrap_in (x := (q.2.1 * 16 + q.1) * 11 + q.2.2.1 + 5) (by omega) (by omega),
    wrap_in (x := ((q.2.1 * 16 + q.1) * 11 + q.2.2.1 + 5) * 11) (by omega) (by omega), wrap_in (x := ((q.2.1 * 16 + q.1) * 11 + q.2.2.1 + 5) * 11 + q.2.2.2) (by omega) (by omega), wrap_in (x := ((q.2.1 * 16 + q.1) * 11 + q.2.2.1 + 5) * 11 + q.2.2.2 + 5) (by omega) (by omega)]
abbrev InR (q : Q4) : Prop := (0 ≤ q.1 ∧ q.1 < 16) ∧ (0 ≤ q.2.1 ∧ q.2.1 < 16) ∧ (-5 ≤ q.2.2.1 ∧ q.2.2.1 ≤ 5) ∧ (-5 ≤ q.2.2.2 ∧ q.2.2.2 ≤ 5)
/-- The bools say which cars have been met. -/
def Met (met : List Bool) (ks : List Q4) : Prop := met.length = 30976 ∧ ∀ q, InR q → (rdOf false met (numQ q) = true ↔ q ∈ ks)
theorem met_start {q : Q4} (h : InR q) : Met ((List.replicate 30976 false).set (numQ q).toNat true) [q] := by
  refine ⟨by rw [List.length_set, List.length_replicate], fun p hp => ?_⟩
  have r1 := numQ_range hp
  have r2 := numQ_range h
  unfold rdOf
  rw [List.getD_eq_getElem?_getD, List.getElem?_set]
  by_cases c : (numQ q).toNat = (numQ p).toNat
  · rw [if_pos c, if_pos (by rw [List.length_replicate]; omega)]
    have : p = q := numQ_inj hp h (by omega)
    simp [this]
  · rw [if_neg c, List.getElem?_replicate, if_pos (by omega)]
    have : p ≠ q := fun e => c (by rw [e])
    simp [this]
theorem Met.add {met : List Bool} {ks : List Q4} (h : Met met ks) {q : Q4} (hq : InR q) : Met (met.set (numQ q).toNat true) (ks ++ [q]) := by
  refine ⟨by rw [List.length_set]; exact h.1, fun p hp => ?_⟩
  have r1 := numQ_range hp
  have r2 := numQ_range hq
  have := h.2 p hp
  unfold rdOf at this ⊢
  rw [List.getD_eq_getElem?_getD] at this ⊢
  rw [List.getElem?_set]
  by_cases c : (numQ q).toNat = (numQ p).toNat
  · rw [if_pos c, if_pos (by rw [h.1]; omega)]
    have : p = q := numQ_inj hp hq (by omega)
    simp [this]
  · rw [if_neg c, this]
    have : p ≠ q := fun e => c (by rw [e])
    simp [this]
theorem tripAt_app {ts xs : List Trip} {i : Int} (h0 : 0 ≤ i) (h1 : i < ts.length) : tripAt (ts ++ xs) i = tripAt ts i := by
  unfold tripAt rd_T54
  have hlt : i.toNat < ts.length := by omega
  rw [List.getD_eq_getElem?_getD, List.getD_eq_getElem?_getD, List.getElem?_append_left hlt]
theorem rd_cars {ts : List Trip} {i : Int} (h0 : 0 ≤ i) (h1 : i < ts.length) : rd_T28 (ts.map (·.f0)) i = (tripAt ts i).f0 := by
  unfold tripAt rd_T54 rd_T28
  have hlt : i.toNat < ts.length := by omega
  rw [List.getD_eq_getElem?_getD, List.getD_eq_getElem?_getD, List.getElem?_map, List.getElem?_eq_getElem hlt]
  rfl
theorem moveQ {l : List ByteArray} (ht : isT l = true) (q : Q4) (hg : Good l q) (m : Int) (hm : 0 ≤ m ∧ m ≤ 8) : Ev (fun k => spec_l08Move.f k l q.1 q.2.1 q.2.2.1 q.2.2.2 m) (if openQ l q m = true then ((nextQ q m).1, (nextQ q m).2.1, (nextQ q m).2.2.1, (nextQ q m).2.2.2, true) else (0, 0, 0, 0, false)) :=
  move_spec ht q.1 q.2.1 q.2.2.1 q.2.2.2 m hg.2.1 hg.2.2 hm
end Go.Proofs.YtjblefcdihmdbaaDoor.B
