/-
  The pure statement of the law FnExactFieldText: program and reference write the same text and code, whatever the field is.
-/
import Derived.Test.YtbojknoehdbphaaDoorQ6
import Derived.Test.YtbojknoehdbphaaDoorTextSame
namespace Go.Proofs.YtbojknoehdbphaaDoor.Pure
open Go.RowKit Go.Proofs.YtbojknoehdbphaaDoor.Q Go.Proofs.YtbojknoehdbphaaDoorW.PrintWords Go.Proofs.YtbojknoehdbphaaDoorW.PrintLast Go.Proofs.YtbojknoehdbphaaDoorW.PrintMore Go.Proofs.YtbojknoehdbphaaDoor.B

theorem FnExactFieldText (P L R B : Int) (_ : (Lit.int .i64 P).wf = true) (_ : (Lit.int .i64 L).wf = true) (_ : (Lit.int .i64 R).wf = true) (_ : (Lit.int .i64 B).wf = true) : Ev (fun k => laws_FnExactFieldText.f k P L R B) true := by
  unfold laws_FnExactFieldText.f
  obtain ⟨t, c, hs, hi⟩ := both_text P L R B
  exact evG (by unfold laws_toField.f; rfl) (evB hs (evG (by unfold laws_toField.f; rfl) (evB hi (evT rfl (evT rfl (evS _))))))
end Go.Proofs.YtbojknoehdbphaaDoor.Pure
