/-
  slices.ContainsFunc at LeastMeeting's predicate: is there a line that a set does not meet? Told as the printed functions are.
-/
import Derived.Test.YtjeiifiacjhfoaaHofCap
namespace Go.Proofs.Ytjeiifiacjhfoaa.Q
open Go.RowKit Go.Proofs.YtjeiifiacjhfoaaW.PrintWords Go.Proofs.YtjeiifiacjhfoaaW.PrintLast Go.Proofs.YtjeiifiacjhfoaaW.PrintMore

def any_LeastMeeting.f (l0 : List Int) (s : Int) : Option Bool := anyF (fun x => some (Go.bits .and .i64 x s == 0)) l0
theorem least1_calls (g : Nat) (s x : Int) (W : World) (hg : W.heap[g]? = some (.cells #[.int .i64 s] 2 (0, 0))) :
    Calls Try.prog 62 (#[.int .i64 x] ++ #[.pointer (some ⟨g, 0, none⟩)]) W fun e w' => e = .returned (.bool (Go.bits .and .i64 x s == 0)) ∧ Drawn0 W w' := by
  rw [show (#[Value.int .i64 x] ++ #[Value.pointer (some ⟨g, 0, none⟩)] : Array Value) = #[.int .i64 x, .pointer (some ⟨g, 0, none⟩)] from rfl]
  have hc0 : W.cell? ⟨g, 0, none⟩ = some (.int .i64 s) := blk_cell hg 0
  clear hg
  go_enter Try.func62, Try.ntmps62
  go_wp2
  go_ret
  exact ⟨rfl, Drawn0.refl _⟩
theorem any_LeastMeeting.calls (A0 : Option Addr) (c0 : Nat) (l0 : List Int) (g : Nat) (s : Int) (r : Bool) (w : World) (hr0 : Kd.C (Kd.int .i64) w A0 l0.length l0) (hc0 : l0.length ≤ c0) (hg : w.heap[g]? = some (.cells #[.int .i64 s] 2 (0, 0)))
    (h : any_LeastMeeting.f l0 s = some r) :
    Calls Try.prog 61 #[.slice A0 l0.length c0, .func (.func 62) #[] #[.pointer (some ⟨g, 0, none⟩)]] w fun e w' => e = .returned (.bool r) ∧ Drawn0 w w' := by
  refine containsFunc_caps 62 _ (enters_of Try.func62 (by kernel_rfl) rfl) _ A0 c0 l0 r w (fun x b W hb hW => ?_) hr0 hc0 hr0.2.1 h
  obtain rfl := Option.some.inj hb
  have hlt : g < w.heap.size := (Array.getElem?_eq_some_iff.1 hg).1
  exact least1_calls g s x W ((hW.block _ hlt).trans hg)
end Go.Proofs.Ytjeiifiacjhfoaa.Q
