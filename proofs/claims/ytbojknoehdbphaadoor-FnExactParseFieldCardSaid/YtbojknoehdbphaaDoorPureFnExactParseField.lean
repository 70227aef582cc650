/-
  The pure statement of the law FnExactParseField: program and reference read the same field, or none, out of a text, whatever the text.
-/
import Derived.Test.YtbojknoehdbphaaDoorQ6
import Derived.Test.YtbojknoehdbphaaDoorReadBoth
namespace Go.Proofs.YtbojknoehdbphaaDoor.Pure
open Go.RowKit Go.Proofs.YtbojknoehdbphaaDoor.Q Go.Proofs.YtbojknoehdbphaaDoorW.PrintWords Go.Proofs.YtbojknoehdbphaaDoorW.PrintLast Go.Proofs.YtbojknoehdbphaaDoor.B

theorem parse_both (l : List UInt8) (hl : l.length ≤ 1048576) : ∃ p L a b c, Ev (fun k => spec_ParseField.f k (BA l)) (p, L, a, b, c) ∧ Ev (fun k => impl_ParseField.f k (BA l)) (p, L, a, b, c) := by
  unfold spec_ParseField.f
  by_cases h : ∃ p L a b, Fld p L a b ∧ l = textT p L a b
  · obtain ⟨p, L, a, b, hF, rfl⟩ := h
    exact ⟨p, L, a, b, 0, evB (spec_reads hF) (evT rfl (evS _)), impl_reads hF⟩
  · rcases spec_any l (by omega) with ⟨x1, x2, x3, x4, hE⟩ | h2
    · exact ⟨0, 0, 0, 0, 6, evB hE (evF (by simp) (evS _)), impl_none l hl (fun p L a b hF e => h ⟨p, L, a, b, hF, e⟩)⟩
    · exact absurd h2 h
theorem FnExactParseField (s : ByteArray) (hs : s.size ≤ 140737488351232) : Ev (fun k => laws_FnExactParseField.f k s) true := by
  unfold laws_FnExactParseField.f
  by_cases hl : (s.size : Int) > 1048576
  · exact evT hl (evS _)
  refine evF hl ?_
  have hb := parse_both s.data.toList (by have : s.data.toList.length = s.size := Array.length_toList
                                          omega)
  rw [BA_eta] at hb
  obtain ⟨p, L, a, b, c, h1, h2⟩ := hb
  refine evB h1 (evB h2 (evG (a := true) ?_ (evT rfl (evT rfl (evS _)))))
  unfold laws_eqField.f
  simp
end Go.Proofs.YtbojknoehdbphaaDoor.Pure
