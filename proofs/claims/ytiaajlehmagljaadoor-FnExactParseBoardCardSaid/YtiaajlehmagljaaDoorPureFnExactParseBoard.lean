/-
  The pure statement of the law FnExactParseBoard: program and reference read the same board and tell the same code, and the marks hold, whatever the text.
-/
import Derived.Test.YtiaajlehmagljaaDoorQ6
import Derived.Test.YtiaajlehmagljaaDoorReadBoard
namespace Go.Proofs.YtiaajlehmagljaaDoor.Pure
open Go.RowKit Go.Proofs.YtiaajlehmagljaaDoor.Q Go.Proofs.YtiaajlehmagljaaDoorW.PrintWords Go.Proofs.YtiaajlehmagljaaDoorW.PrintLast Go.Proofs.YtiaajlehmagljaaDoorW.PrintMore Go.Proofs.YtiaajlehmagljaaDoor.B

theorem both (l : List UInt8) (hl : l.length ≤ 1048576) : ∃ (n : Int) (L : List Int) (c : Int), L.length ≤ 100 ∧ Ev (fun k => spec_ParseBoard.f k (BA l)) (n, L, c) ∧ Ev (fun k => impl_ParseBoard.f k (BA l)) (n, L, c) := by
  unfold spec_ParseBoard.f
  by_cases h : ∃ n L, boardB n L = true ∧ l = txt n L
  · obtain ⟨n, L, hb, rfl⟩ := h
    obtain ⟨_, hL, _⟩ := (boardB_iff n L).1 hb
    exact ⟨n, L, 0, hL, evB (spec_reads n L hb) (evT rfl (evS _)), impl_reads n L hb⟩
  · rcases spec_any l (by omega) with ⟨x1, x2, hs⟩ | hs
    · exact ⟨0, [], 6, by simp, evB hs (evF (by simp) (evS _)), impl_none l (by omega) (fun n L hb e => h ⟨n, L, hb, e⟩)⟩
    · exact absurd hs h
theorem eqB (n : Int) (L : List Int) (h : L.length ≤ 100) : Ev (fun k => laws_eqBoard.f k n L n L) true := by
  unfold laws_eqBoard.f
  exact evT rfl (evB (eqInts L (by omega)) (evT rfl (evS _)))
theorem FnExactParseBoard (s : ByteArray) (_ : s.size ≤ 140737488351232) : Ev (fun k => laws_FnExactParseBoard.f k s) true := by
  unfold laws_FnExactParseBoard.f
  by_cases h : (s.size : Int) > 1048576
  · exact evT h (evS _)
  obtain ⟨l, rfl⟩ : ∃ l, s = BA l := ⟨s.data.toList, (BA_eta s).symm⟩
  rw [BA_size] at h
  obtain ⟨n, L, c, hL, hs, hi⟩ := both l (by omega)
  have hm := markInts L 1 (by decide) (by omega)
  have hh := heldInts L.length 1 (by decide) (by omega)
  have hB : Ev (fun k => laws_heldBoard.f k n (marks 1 L.length) 1) (1 + L.length) := by
    unfold laws_heldBoard.f
    exact evB hh (evF (by omega) (evS _))
  refine evF (by rw [BA_size]; exact h) (evB hs (evB hi (evB (eqB n L hL) (evT rfl ?_))))
  refine evSucc (fun k => by rw [laws_FnExactParseBoard.j0]) ?_
  refine evF (by simp) (evB (show Ev (fun k => laws_markBoard.f k n L 1) (1 + L.length, marks 1 L.length) from ?_) (evB hB (evF (by omega) (evT rfl (evB hi (evB (eqB n L hL) (evT rfl ?_)))))))
  · unfold laws_markBoard.f
    exact evB hm (evS _)
  refine evSucc (fun k => by rw [laws_FnExactParseBoard.j1]) ?_
  exact evF (by simp) (evB hB (evF (by omega) (evT rfl (evS _))))
end Go.Proofs.YtiaajlehmagljaaDoor.Pure
