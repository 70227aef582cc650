/-
  Plain: of boards of hex, NeedOf of program and reference are the same, whatever the board and the player.
-/
import Derived.Test.YtnecgdlhkbbpgaaHexSpec2
import Derived.Test.YtnecgdlhkbbpgaaFirstTwo
import Derived.Test.YtnecgdlhkbbpgaaQ24
namespace Go.Proofs.Ytnecgdlhkbbpgaa.B
open Go.RowKit Go.Proofs.Ytnecgdlhkbbpgaa.Q Go.Proofs.YtnecgdlhkbbpgaaW.PrintWords Go.Proofs.YtnecgdlhkbbpgaaW.PrintLast

theorem hexOk_of {a : Int} {l : List Int} {p : Int} (h : isHexB a l = true) (hp : p = 1 ∨ p = 2) : HexOk a l p := by
  unfold isHexB at h
  simp only [Bool.and_eq_true, decide_eq_true_eq, List.all_eq_true] at h
  obtain ⟨⟨h1, h2⟩, h3⟩ := h
  have hw : wrap64 (a * a) = a * a := by
    have ha : a = 1 ∨ a = 2 ∨ a = 3 ∨ a = 4 ∨ a = 5 ∨ a = 6 ∨ a = 7 ∨ a = 8 := by omega
    rcases ha with rfl | rfl | rfl | rfl | rfl | rfl | rfl | rfl <;> exact wrap_in (by omega) (by omega)
  exact ⟨h1.1, h1.2, by rw [h2, hw], fun x hx => h3 x hx, hp⟩
theorem needOf_both (a : Int) (l : List Int) (p : Int) (hl : l.length ≤ 4000000000000000000) : ∃ r, Ev (fun k => spec_NeedOf.f k a l p) r ∧ Ev (fun k => impl_NeedOf.f k a l p) r := by
  unfold spec_NeedOf.f impl_NeedOf.f impl_playerCode.f
  cases h : isHexB a l with
  | false =>
    refine ⟨(0, 1), evB (l06Is_spec a l hl) (evF (by simp [h]) (evS _)), ?_⟩
    refine evB (evG (isHex_impl a l) (evG (within_eq _ _ _) (evB (first_two _ _ _ _) (evS _)))) ?_
    rw [h]
    exact evF (by simp) (evS _)
  | true =>
    by_cases hp : 1 ≤ p ∧ p ≤ 2
    · obtain ⟨r, h0, r1, r2⟩ := need_both (hexOk_of h (by omega) : HexOk a l p)
      refine ⟨codeI r, evB (l06Is_spec a l hl) (evT (by simp [h]) (evG (l01In_eq _ _ _) (evT (by simpa using hp) r2))), ?_⟩
      refine evB (evG (isHex_impl a l) (evG (within_eq _ _ _) (evB (first_two _ _ _ _) (evS _)))) ?_
      rw [h]
      simp only [hp, and_self, decide_true]
      refine evT (by decide) (evB r1 ?_)
      by_cases hr : r < 0
      · have e : codeI r = (0, 4) := if_pos hr
        rw [e]
        exact evT hr (evS _)
      · have e : codeI r = (r, 0) := if_neg hr
        rw [e]
        exact evF hr (evS _)
    · refine ⟨(0, 2), evB (l06Is_spec a l hl) (evT (by simp [h]) (evG (l01In_eq _ _ _) (evF (by simpa using hp) (evS _)))), ?_⟩
      refine evB (evG (isHex_impl a l) (evG (within_eq _ _ _) (evB (first_two _ _ _ _) (evS _)))) ?_
      rw [h, decide_eq_false hp]
      exact evF (by decide) (evS _)
end Go.Proofs.Ytnecgdlhkbbpgaa.B
