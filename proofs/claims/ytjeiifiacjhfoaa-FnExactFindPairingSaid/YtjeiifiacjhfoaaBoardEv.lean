/-
  The laws' own helpers over boards, and the counting of nodes. Lists of at most 1,048,576 numbers.
-/
import Derived.Test.YtjeiifiacjhfoaaQ1
import Derived.Test.YtjeiifiacjhfoaaEvTo
namespace Go.Proofs.Ytjeiifiacjhfoaa.B
open Go.RowKit Go.Proofs.Ytjeiifiacjhfoaa.Q Go.Proofs.YtjeiifiacjhfoaaW.PrintWords Go.Proofs.YtjeiifiacjhfoaaW.PrintLast Go.Proofs.YtjeiifiacjhfoaaW.PrintMore

theorem szB_big (n : Int) (L : List Int) (hm : L.length ≤ maxLen) (h : 1048576 < L.length) : laws_szBoard.f n L 1048576 = some (-1) := by
  have e : maxLen = 9223372036854775807 := by decide +kernel
  unfold laws_szBoard.f laws_szInt64S.f
  rw [wrap_in (by omega) (by omega), if_pos (by omega)]
  rfl
theorem szB_ok (n : Int) (L : List Int) (h : L.length ≤ 1048576) : laws_szBoard.f n L 1048576 = some (1048576 - (L.length : Int)) := by
  unfold laws_szBoard.f laws_szInt64S.f
  rw [wrap_in (by omega) (by omega), if_neg (by omega)]
  simp only [Option.bind_some]
  rw [if_neg (by omega)]
theorem toB (n : Int) (L : List Int) (h : L.length ≤ 1048576) : Ev (fun k => laws_toBoard.f k n L) (n, L) := by
  unfold laws_toBoard.f
  exact evB (toInts L h) (evS _)
theorem eqB (n : Int) (L : List Int) (h : L.length ≤ 1048576) : Ev (fun k => laws_eqBoard.f k n L n L) true := by
  unfold laws_eqBoard.f
  exact evT rfl (evB (eqInts L (by omega)) (evT rfl (evS _)))
end Go.Proofs.Ytjeiifiacjhfoaa.B
