/-
  impl.tour at CanStop's function, told as the printed functions are. The rows within memory's reach.
-/
import Derived.Test.YtjblefcdihmdbaaDoorOutTour
import Derived.Test.YtjblefcdihmdbaaDoorQ5
namespace Go.Proofs.YtjblefcdihmdbaaDoor.Q
open Go.RowKit Go.Proofs.YtjblefcdihmdbaaDoorW.PrintWords Go.Proofs.YtjblefcdihmdbaaDoorW.PrintLast Go.Proofs.YtjblefcdihmdbaaDoorW.PrintMore

def stopP (q : Q4) : Option Bool := impl_CanStop_1.f q.1 q.2.1 q.2.2.1 q.2.2.2
def wfB (q : Q4) : Bool := (Lit.int .i64 q.1).wf && ((Lit.int .i64 q.2.1).wf && ((Lit.int .i64 q.2.2.1).wf && (Lit.int .i64 q.2.2.2).wf))
theorem wfB_wf {q : Q4} (h : wfB q = true) : wfQ q := by
  simp only [wfB, Bool.and_eq_true] at h
  exact h
def tour_CanStop.f (k : Nat) (l : List ByteArray) (c0 c1 c2 c3 most : Int) : Option (List S54 × Int) := if wfB (c0, c1, c2, c3) = true then tourF stopP k l most k [trip0 c0 c1 c2 c3] 0 else none
theorem tour_CanStop.mono : ∀ a0 a1 a2 a3 a4 a5 k, LeO (tour_CanStop.f k a0 a1 a2 a3 a4 a5) (tour_CanStop.f (k + 1) a0 a1 a2 a3 a4 a5) := by
  intro a0 a1 a2 a3 a4 a5 k
  unfold tour_CanStop.f
  exact LeO.ite (tourF_mono _ _ (fun _ => LeO.refl _) _ _ _ _ _ _) (LeO.refl _)
theorem tour_CanStop.calls (k : Nat) (A0 : Option Addr) (c0 : Nat) (l0 : List ByteArray) (a1_0 a1_1 a1_2 a1_3 a2 : Int) (r1 : List S54) (r2 : Int) (w : World) (hr0 : Kd.C Kd.string w A0 l0.length l0) (hc0 : l0.length ≤ c0) (h : tour_CanStop.f k l0 a1_0 a1_1 a1_2 a1_3 a2 = some (r1, r2)) :
    Calls Tryd.prog 23 #[.slice A0 l0.length c0, .agg #[.int .i64 a1_0, .int .i64 a1_1, .int .i64 a1_2, .int .i64 a1_3], .int .i64 a2, .func (.func 24) #[] #[]] w fun e w' => ∃ v0_ : Value, e = .returned (.tuple #[v0_, .int .i64 r2]) ∧ Kd.R k54 54 w' w.heap.size (fun _ => True) v0_ r1 ∧ Below w.heap.size w w' := by
  unfold tour_CanStop.f at h
  split at h
  · rename_i hw
    exact tour_calls 24 #[] (enters_of Tryd.func24 (by kernel_rfl) rfl) stopP k k A0 c0 l0 a1_0 a1_1 a1_2 a1_3 a2 r1 r2 w (fun q r W hq _ => impl_CanStop_1.calls q.1 q.2.1 q.2.2.1 q.2.2.2 r W hq) hr0 hc0 (wfB_wf hw) h
  · cases h
end Go.Proofs.YtjblefcdihmdbaaDoor.Q
