/-
  The pure statement of the law FnExactGridBoard: program and reference tell the same board and code, and the marks hold, whatever the arguments are: outside of the bounds both tell an error, and inside there are 512 cases, reckoned by the kernel.
-/
import Derived.Test.YtjeiifiacjhfoaaQ41
import Derived.Test.YtjeiifiacjhfoaaGridCases
namespace Go.Proofs.Ytjeiifiacjhfoaa.Pure
open Go.RowKit Go.Proofs.Ytjeiifiacjhfoaa.Q Go.Proofs.YtjeiifiacjhfoaaW.PrintWords Go.Proofs.YtjeiifiacjhfoaaW.PrintLast Go.Proofs.YtjeiifiacjhfoaaW.PrintMore Go.Proofs.Ytjeiifiacjhfoaa.B

theorem bad_spec (w h k : Int) (hb : ¬ ((1 ≤ w ∧ w ≤ 8) ∧ (1 ≤ h ∧ h ≤ 8) ∧ (1 ≤ k ∧ k ≤ 8))) : Ev (fun n => spec_GridBoard.f n w h k) (0, [], 2) := by
  unfold spec_GridBoard.f
  simp only [gl01In_eq, Option.bind_some]
  have hj : Ev (fun n => spec_GridBoard.j0 n w h k true) (0, [], 2) := by
    refine gevSucc (fun n => by rw [spec_GridBoard.j0]) ?_
    exact gevT rfl (gevS _)
  by_cases c1 : 1 ≤ w ∧ w ≤ 8
  · refine gevT (decide_eq_true c1) ?_
    by_cases c2 : 1 ≤ h ∧ h ≤ 8
    · refine gevT (decide_eq_true c2) ?_
      by_cases c3 : wrap64 (w * h) > 16
      · exact gevT c3 hj
      · refine gevF c3 ?_
        rw [decide_eq_false (fun c4 => hb ⟨c1, c2, c4⟩)]
        exact hj
    · exact gevF (by rw [decide_eq_false c2]; decide) hj
  · exact gevF (by rw [decide_eq_false c1]; decide) hj
theorem bad_impl (w h k : Int) (hb : ¬ ((1 ≤ w ∧ w ≤ 8) ∧ (1 ≤ h ∧ h ≤ 8) ∧ (1 ≤ k ∧ k ≤ 8))) : Ev (fun n => impl_GridBoard.f n w h k) (0, [], 2) := by
  unfold impl_GridBoard.f
  simp only [gwithin_eq, Option.bind_some]
  have hj : Ev (fun n => impl_GridBoard.j0 n w h k true) (0, [], 2) := by
    refine gevSucc (fun n => by rw [impl_GridBoard.j0]) ?_
    exact gevT rfl (gevS _)
  by_cases c1 : 1 ≤ w ∧ w ≤ 8
  · refine gevT (decide_eq_true c1) ?_
    by_cases c2 : 1 ≤ h ∧ h ≤ 8
    · refine gevT (decide_eq_true c2) ?_
      by_cases c3 : wrap64 (w * h) > 16
      · exact gevT c3 hj
      · refine gevF c3 ?_
        rw [decide_eq_false (fun c4 => hb ⟨c1, c2, c4⟩)]
        exact hj
    · exact gevF (by rw [decide_eq_false c2]; decide) hj
  · exact gevF (by rw [decide_eq_false c1]; decide) hj
theorem FnExactGridBoard (w h k : Int) (_ : (Lit.int .i64 w).wf = true) (_ : (Lit.int .i64 h).wf = true) (_ : (Lit.int .i64 k).wf = true) : Ev (fun n => laws_FnExactGridBoard.f n w h k) true := by
  by_cases hb : (1 ≤ w ∧ w ≤ 8) ∧ (1 ≤ h ∧ h ≤ 8) ∧ (1 ≤ k ∧ k ≤ 8)
  · obtain ⟨⟨a0, a1⟩, ⟨b0, b1⟩, c0, c1⟩ := hb
    have e := grid_cases ⟨(w - 1).toNat, by omega⟩ ⟨(h - 1).toNat, by omega⟩ ⟨(k - 1).toNat, by omega⟩
    rw [show (((w - 1).toNat : Nat) : Int) + 1 = w by omega, show (((h - 1).toNat : Nat) : Int) + 1 = h by omega, show (((k - 1).toNat : Nat) : Int) + 1 = k by omega] at e
    exact evMono (fun n => laws_FnExactGridBoard.mono w h k n) e
  · have hs := bad_spec w h k hb
    have hi := bad_impl w h k hb
    unfold laws_FnExactGridBoard.f
    have heq : Ev (fun n => laws_eqBoard.f n 0 [] 0 []) true := evMono (fun n => laws_eqBoard.mono 0 [] 0 [] n) (k := 10) (by decide +kernel)
    have hmk : Ev (fun n => laws_markBoard.f n 0 [] 1) (1, []) := evMono (fun n => laws_markBoard.mono 0 [] 1 n) (k := 10) (by decide +kernel)
    have hhe : Ev (fun n => laws_heldBoard.f n 0 [] 1) 1 := evMono (fun n => laws_heldBoard.mono 0 [] 1 n) (k := 10) (by decide +kernel)
    refine gevB hs (gevB hi (gevB heq (gevT rfl ?_)))
    refine gevSucc (fun n => by rw [laws_FnExactGridBoard.j0]) ?_
    refine gevF (by decide) (gevB hmk (gevB hhe (gevF (by decide) (gevT rfl (gevB hi (gevB heq (gevT rfl ?_)))))))
    refine gevSucc (fun n => by rw [laws_FnExactGridBoard.j1]) ?_
    exact gevF (by decide) (gevB hhe (gevF (by decide) (gevT rfl (gevS _))))
end Go.Proofs.Ytjeiifiacjhfoaa.Pure
