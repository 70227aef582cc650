/-
  slices.IndexFunc at firstCar's predicate, told as the printed functions are: the plain search for a row that contains an S. The rows within memory's reach.
-/
import Derived.Test.YtjblefcdihmdbaaDoorOutStr
import Derived.Test.YtjblefcdihmdbaaDoorHofStr
namespace Go.Proofs.YtjblefcdihmdbaaDoor.Q
open Go.RowKit Go.Proofs.YtjblefcdihmdbaaDoorW.PrintWords Go.Proofs.YtjblefcdihmdbaaDoorW.PrintLast Go.Proofs.YtjblefcdihmdbaaDoorW.PrintMore

def firstP (x : ByteArray) : Option Bool := strings_Contains.f x ⟨#[83]⟩
def idx_firstCar.f (l : List ByteArray) : Option Int := idxF firstP l 0
theorem first1_calls (x : ByteArray) (b : Bool) (W : World) (h : firstP x = some b) :
    Calls Tryd.prog 51 (#[.string x] ++ #[]) W fun e w' => e = .returned (.bool b) ∧ Below W.heap.size W w' := by
  rw [show (#[Value.string x] ++ #[] : Array Value) = #[.string x] from rfl]
  have H := Aside0.mk h
  clear h
  go_enter Tryd.func51, Tryd.ntmps51
  go_wp2_with (go_at_call 49; refine (strings_Contains.calls _ _ b _ H.out).mono ?_; rintro e w' ⟨rfl, hb'⟩)
  go_ret
  exact ⟨rfl, hb'⟩
theorem idx_firstCar.calls (A0 : Option Addr) (c0 : Nat) (l0 : List ByteArray) (r : Int) (w : World) (hr0 : Kd.C Kd.string w A0 l0.length l0) (hc0 : l0.length ≤ c0) (h : idx_firstCar.f l0 = some r) :
    Calls Tryd.prog 50 #[.slice A0 l0.length c0, .func (.func 51) #[] #[]] w fun e w' => e = .returned (.int .i64 r) ∧ Below w.heap.size w w' := by
  refine (indexFunc_str 51 #[] (enters_of Tryd.func51 (by kernel_rfl) rfl) firstP (fun _ => True) none A0 c0 l0 r w (fun x b W hb _ => ?_) (fun W hg => Kd.C_below hr0 (below_of_grown hg)) trivial hc0 hr0.2.1 h).mono ?_
  · refine (first1_calls x b W hb).mono ?_
    rintro e w' ⟨rfl, hb'⟩
    exact ⟨rfl, trivial, grown_below hb'⟩
  · rintro e w' ⟨rfl, hg, _⟩
    exact ⟨rfl, below_of_grown hg⟩
end Go.Proofs.YtjblefcdihmdbaaDoor.Q
