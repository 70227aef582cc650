/-
  chosen at nodesOf's predicate: the nodes of a set among the first n numbers. Told as the printed functions are. At most 1,000,000 numbers.
-/
import Derived.Test.YtbmkhdeeengbmaaChosen
namespace Go.Proofs.Ytbmkhdeeengbmaa.Q
open Go.RowKit Go.Proofs.YtbmkhdeeengbmaaW.PrintWords Go.Proofs.YtbmkhdeeengbmaaW.PrintLast Go.Proofs.YtbmkhdeeengbmaaW.PrintMore

def nodeP (s x : Int) : Option Bool := if 0 ≤ x then some (Go.bits .and .i64 (shr .i64 s x) 1 == 1) else none
def choose_nodesOf.f (n s : Int) : Option (List Int) := if n ≤ 1000000 then chooseP (nodeP s) n.toNat 0 else none
theorem nodes1_calls (g : Nat) (s x : Int) (b : Bool) (W : World) (hg : W.heap[g]? = some (.cells #[.int .i64 s] 2 (0, 0))) (h : nodeP s x = some b) :
    Calls Try.prog 63 (#[.int .i64 x] ++ #[.pointer (some ⟨g, 0, none⟩)]) W fun e w' => e = .returned (.bool b) ∧ Below W.heap.size W w' := by
  rw [show (#[Value.int .i64 x] ++ #[Value.pointer (some ⟨g, 0, none⟩)] : Array Value) = #[.int .i64 x, .pointer (some ⟨g, 0, none⟩)] from rfl]
  obtain ⟨hq, hb⟩ : 0 ≤ x ∧ Aside0 (b = (Go.bits .and .i64 (shr .i64 s x) 1 == 1)) := by
    unfold nodeP at h
    split at h
    · exact ⟨by assumption, ⟨(Option.some.inj h).symm⟩⟩
    · cases h
  have hc0 : W.cell? ⟨g, 0, none⟩ = some (.int .i64 s) := blk_cell hg 0
  clear hg h
  go_enter Try.func63, Try.ntmps63
  go_wp2
  go_ret
  exact ⟨by rw [hb.out]; rfl, Below.refl _ _⟩
theorem choose_nodesOf.calls (n : Int) (g : Nat) (s : Int) (r : List Int) (w : World) (hg : w.heap[g]? = some (.cells #[.int .i64 s] 2 (0, 0))) (h : choose_nodesOf.f n s = some r) :
    Calls Try.prog 62 #[.int .i64 n, .func (.func 63) #[] #[.pointer (some ⟨g, 0, none⟩)]] w fun e w' => ∃ v0_ : Value, e = .returned (v0_) ∧ Kd.R (Kd.int .i64) 2 w' w.heap.size (fun _ => True) v0_ r ∧ Below w.heap.size w w' := by
  unfold choose_nodesOf.f at h
  split at h
  · exact chosen_calls 63 _ (enters_of Try.func63 (by kernel_rfl) rfl) (nodeP s) n r w (fun x b W _ _ hW hb => nodes1_calls g s x b W (blk_below hg hW) hb) (by assumption) h
  · cases h
end Go.Proofs.Ytbmkhdeeengbmaa.Q
