/-
  The open moves of the program, of a track and a car with right speeds.
-/
import Derived.Test.YtjblefcdihmdbaaDoorMovePure
import Derived.Test.YtjblefcdihmdbaaDoorOutMoves
import Derived.Test.YtjblefcdihmdbaaDoorChooseLaws
namespace Go.Proofs.YtjblefcdihmdbaaDoor.B
open Go.RowKit Go.Proofs.YtjblefcdihmdbaaDoor.Q Go.Proofs.YtjblefcdihmdbaaDoorW.PrintWords Go.Proofs.YtjblefcdihmdbaaDoorW.PrintLast

theorem moves_implQ {l : List ByteArray} (h : isT l = true) (c0 c1 c2 c3 : Int) (h2 : -5 ≤ c2 ∧ c2 ≤ 5) (h3 : -5 ≤ c3 ∧ c3 ≤ 5) : Ev (fun k => impl_openMoves.f k l c0 c1 c2 c3) ((seg 0 9).filter (openB l c0 c1 c2 c3)) := by
  unfold impl_openMoves.f
  exact chooseP_ev (fun k m => impl_isOpen.f k l c0 c1 c2 c3 m) (openB l c0 c1 c2 c3) 9 0 (fun x h0 h1 => open_impl h c0 c1 c2 c3 x h2 h3 ⟨h0, by omega⟩)
end Go.Proofs.YtjblefcdihmdbaaDoor.B
