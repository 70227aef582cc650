/-
  slices.DeleteFunc at LinesThrough's predicate: what is kept are the lines through a node. Told as the printed functions are.
-/
import Derived.Test.YtjeiifiacjhfoaaDelFunc
namespace Go.Proofs.Ytjeiifiacjhfoaa.Q
open Go.RowKit Go.Proofs.YtjeiifiacjhfoaaW.PrintWords Go.Proofs.YtjeiifiacjhfoaaW.PrintLast Go.Proofs.YtjeiifiacjhfoaaW.PrintMore

def linesP (q x : Int) : Option Bool := if 0 ≤ q then some (Go.bits .and .i64 (shr .i64 x q) 1 == 0) else none
def del_LinesThrough.f (l0 : List Int) (q : Int) : Option (List Int) := delP (linesP q) l0
theorem lines1_calls (g : Nat) (q x : Int) (b : Bool) (W : World) (hg : W.heap[g]? = some (.cells #[.int .i64 q] 2 (0, 0))) (h : linesP q x = some b) :
    Calls Try.prog 67 (#[.int .i64 x] ++ #[.pointer (some ⟨g, 0, none⟩)]) W fun e w' => e = .returned (.bool b) ∧ Drawn0 W w' := by
  rw [show (#[Value.int .i64 x] ++ #[Value.pointer (some ⟨g, 0, none⟩)] : Array Value) = #[.int .i64 x, .pointer (some ⟨g, 0, none⟩)] from rfl]
  obtain ⟨hq, hb⟩ : 0 ≤ q ∧ Aside0 (b = (Go.bits .and .i64 (shr .i64 x q) 1 == 0)) := by
    unfold linesP at h
    split at h
    · exact ⟨by assumption, ⟨(Option.some.inj h).symm⟩⟩
    · cases h
  have hc0 : W.cell? ⟨g, 0, none⟩ = some (.int .i64 q) := blk_cell hg 0
  clear hg h
  go_enter Try.func67, Try.ntmps67
  go_wp2
  go_ret
  exact ⟨by rw [hb.out]; rfl, Drawn0.refl _⟩
theorem del_LinesThrough.calls (P0_ : Nat → Prop) (u9000_ : Value) (l0 : List Int) (g : Nat) (q : Int) (r : List Int) (w0 w : World) (hB : Below w0.heap.size w0 w) (ho0 : Kd.R (Kd.int .i64) 2 w w0.heap.size P0_ u9000_ l0)
    (hg : w.heap[g]? = some (.cells #[.int .i64 q] 2 (0, 0))) (hne : u9000_.ownBlock ≠ some g) (h : del_LinesThrough.f l0 q = some r) :
    Calls Try.prog 65 #[u9000_, .func (.func 67) #[] #[.pointer (some ⟨g, 0, none⟩)]] w fun e w' => ∃ v0_ : Value, e = .returned (v0_) ∧ Kd.R (Kd.int .i64) 2 w' w0.heap.size (fun k_ => (P0_ k_ ∨ w.heap.size ≤ k_)) v0_ r ∧ Below w0.heap.size w0 w' ∧ Kept w w' (fun k_ => P0_ k_) := by
  refine deleteFunc_draw 67 _ (enters_of Try.func67 (by kernel_rfl) rfl) (linesP q) (fun W => W.heap[g]? = some (.cells #[.int .i64 q] 2 (0, 0))) P0_ u9000_ l0 r w0 w (fun W W' h1 h2 => ?_) hg (fun x b W h1 h2 => lines1_calls g q x b W h1 h2) hB ho0 h
  exact (h2.block g (Array.getElem?_eq_some_iff.1 h1).1 (fun e => hne e.symm)).trans h1
end Go.Proofs.Ytjeiifiacjhfoaa.Q
