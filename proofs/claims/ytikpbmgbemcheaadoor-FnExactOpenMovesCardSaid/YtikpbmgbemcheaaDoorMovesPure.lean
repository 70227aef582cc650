/-
  The open moves: program and reference tell the same list, of a track and a car with right speeds.
-/
import Derived.Test.YtikpbmgbemcheaaDoorCarPure
import Derived.Test.YtikpbmgbemcheaaDoorOutMoves
import Derived.Test.YtikpbmgbemcheaaDoorChooseLaws
import Derived.Test.YtikpbmgbemcheaaDoorQ14
namespace Go.Proofs.YtikpbmgbemcheaaDoor.B
open Go.RowKit Go.Proofs.YtikpbmgbemcheaaDoor.Q Go.Proofs.YtikpbmgbemcheaaDoorW.PrintWords Go.Proofs.YtikpbmgbemcheaaDoorW.PrintLast

/-- The open moves. -/
def movesL (l : List ByteArray) (c0 c1 c2 c3 : Int) : List Int := (seg 0 9).filter (openB l c0 c1 c2 c3)
theorem moves_impl {l : List ByteArray} (h : isT l = true) (c0 c1 c2 c3 : Int) (h2 : -5 ≤ c2 ∧ c2 ≤ 5) (h3 : -5 ≤ c3 ∧ c3 ≤ 5) : Ev (fun k => impl_openMoves.f k l c0 c1 c2 c3) (movesL l c0 c1 c2 c3) := by
  unfold impl_openMoves.f movesL
  exact chooseP_ev (fun k m => impl_isOpen.f k l c0 c1 c2 c3 m) (openB l c0 c1 c2 c3) 9 0 (fun x h0 h1 => open_impl h c0 c1 c2 c3 x h2 h3 ⟨h0, by omega⟩)
theorem moves_spec_l {l : List ByteArray} (h : isT l = true) (c0 c1 c2 c3 : Int) (h2 : -5 ≤ c2 ∧ c2 ≤ 5) (h3 : -5 ≤ c3 ∧ c3 ≤ 5) (d : Nat) : ∀ (i : Int) (acc : List Int), 0 ≤ i → i + d = 9 → acc.length ≤ i →
    Ev (fun k => spec_OpenMoves.l0 k l acc i c0 c1 c2 c3) (acc ++ (seg i d).filter (openB l c0 c1 c2 c3), 0) := by
  induction d with
  | zero =>
    intro i acc h0 hi ha
    refine evSucc (fun k => by rw [spec_OpenMoves.l0]) ?_
    exact evF (by omega) (evE (by simp [seg]) (evS _))
  | succ d ih =>
    intro i acc h0 hi ha
    refine evSucc (fun k => by rw [spec_OpenMoves.l0, wrap_in (x := i + 1) (by omega) (by omega)]) ?_
    refine evT (by omega) (evB (move_spec h c0 c1 c2 c3 i h2 h3 ⟨h0, by omega⟩) ?_)
    simp only [seg, List.filter_cons]
    unfold moveR
    by_cases c : openB l c0 c1 c2 c3 i = true
    · rw [if_pos c, if_pos c]
      refine evT rfl (evT (by omega) (evE ?_ (ih (i + 1) (acc ++ [i]) (by omega) (by omega) (by simp; omega))))
      simp
    · rw [if_neg c, if_neg c]
      exact evF (by simp) (ih (i + 1) acc (by omega) (by omega) (by omega))
theorem movesL_len (l : List ByteArray) (c0 c1 c2 c3 : Int) : (movesL l c0 c1 c2 c3).length ≤ 9 := filter_length_le_seg _ _ _
theorem mem_movesL {l : List ByteArray} {c0 c1 c2 c3 x : Int} (h : x ∈ movesL l c0 c1 c2 c3) : 0 ≤ x ∧ x ≤ 8 ∧ openB l c0 c1 c2 c3 x = true := by
  obtain ⟨h1, h2⟩ := List.mem_filter.1 h
  have := (mem_seg _ _ _).1 h1
  exact ⟨by omega, by omega, h2⟩
end Go.Proofs.YtikpbmgbemcheaaDoor.B
