/-
  What the row's list of variables gives: strconv's two errors and its table of powers (Door).
-/
import Derived.Test.YtiaajlehmagljaaDoorRows
import Derived.Test.YtiaajlehmagljaaDoorOutNumber
import Derived.Stop.LaidErr
import Derived.Stop.Joined
import Derived.LaidMore
import Derived.Lay
namespace Go.Proofs.YtiaajlehmagljaaDoor.Q
open Go.RowKit Go.ChangeShapes
theorem star : "*" ++ "errors.errorString" = "*errors.errorString" := by decide
theorem rowErr (u : TypeId) (h : Tryd.prog.typeName? 3 u = some "*errors.errorString") : u = 115 :=
  typeName_ptr_named (nm := "errors.errorString") (by rw [star]; kernel_rfl) (by kernel_rfl) (by decide) u (by rw [star]; exact h)
theorem gSyn : Tryd.prog.globalNamed "strconv.ErrSyntax" = some 2 := by kernel_rfl
theorem gSynT : (Tryd.prog.globals[2]?).map (·.type) = some 67 := by kernel_rfl
theorem gRan : Tryd.prog.globalNamed "strconv.ErrRange" = some 3 := by kernel_rfl
theorem gRanT : (Tryd.prog.globals[3]?).map (·.type) = some 67 := by kernel_rfl
theorem gTab : Tryd.prog.globalNamed "internal/strconv.uint64pow10" = some 1 := by kernel_rfl
theorem gTabT : (Tryd.prog.globals[1]?).map (·.type) = some 102 := by kernel_rfl
theorem pow_is : (Rows.laid_internal_strconv_uint64pow10 : DataW Unit) = Lib.tabData .u64 Lib.pow10Tab := by rfl
set_option maxRecDepth 100000 in
theorem door_of_laid {W : World} (h : laidMetH Tryd.prog Rows.fnExactParseBoardRow.laid W) : Door W := by
  rw [MakeChecks.laidMetH_plain _ _ _ (by kernel_rfl)] at h
  have h1 := h.tail.tail
  have h2 := h1.tail.tail
  have h3 := h2.tail
  unfold Rows.laid_internal_strconv_uint64pow10 at h1
  obtain ⟨a0, s0, hv0, -, -, -⟩ := laid_sentinel h2 gRan gRanT Tryd.underlying67 rowErr Tryd.underlying115 Tryd.underlying117 rfl rfl Tryd.underlying9 (by kernel_rfl) (by kernel_rfl)
  obtain ⟨a1, s1, hv1, -, -, -⟩ := laid_sentinel h3 gSyn gSynT Tryd.underlying67 rowErr Tryd.underlying115 Tryd.underlying117 rfl rfl Tryd.underlying9 (by kernel_rfl) (by kernel_rfl)
  exact ⟨⟨_, _, hv1⟩, ⟨_, _, hv0⟩, Lib.tabIs_of_head gTab gTabT Tryd.underlying102 Tryd.underlying56 (by kernel_rfl) (by kernel_rfl) h1⟩
end Go.Proofs.YtiaajlehmagljaaDoor.Q
