/-
  The reference's l07Behind and its contract, out of l07Race's.
-/
import Derived.Test.YtbmkhdeeengbmaaSpecBehind
import Derived.Test.YtbmkhdeeengbmaaQ6
namespace Go.Proofs.Ytbmkhdeeengbmaa.Q
open Go.RowKit Go.Proofs.YtbmkhdeeengbmaaW.PrintWords Go.Proofs.YtbmkhdeeengbmaaW.PrintLast Go.Proofs.YtbmkhdeeengbmaaW.PrintMore

def spec_l07Behind.f (k : Nat) (a0_0 : Int) (l0_1 : List Int) (a1 a2 a3 : Int) (l4 : List Int) : Option (Int × List Int) := spec_l07Behind.F (spec_l07Race.f k) k a0_0 l0_1 a1 a2 a3 l4
theorem spec_l07Behind.mono : ∀ a0 a1 a2 a3 a4 a5 k, LeO (spec_l07Behind.f k a0 a1 a2 a3 a4 a5) (spec_l07Behind.f (k + 1) a0 a1 a2 a3 a4 a5) := by
  intro a0 a1 a2 a3 a4 a5 k
  exact spec_l07Behind.F_mono (fun _ _ _ _ _ => spec_l07Race.mono _ _ _ _ _ k) _ _ _ _ _ _ k
theorem spec_l07Behind.calls (k : Nat) (a0_0 : Int) (A0_1 : Option Addr) (c0_1 : Nat) (l0_1 : List Int) (a1 : Int) (a2 : Int) (a3 : Int) (P4_ : Nat → Prop) (u9000_ : Value) (l4 : List Int) (r1 : Int) (r2 : List Int) (w0 w : World) (hB : Below w0.heap.size w0 w) (hr0_1 : ∀ W_, Kept w W_ (fun k_ => P4_ k_) → Kd.C (Kd.int .i64) W_ A0_1 l0_1.length l0_1) (hc0_1 : l0_1.length ≤ c0_1) (ho4 : Kd.R (Kd.int .i8) 72 w w0.heap.size P4_ u9000_ l4) (h : spec_l07Behind.f k a0_0 l0_1 a1 a2 a3 l4 = some (r1, r2)) :
    Calls Try.prog 49 #[.agg #[.int .i64 a0_0, .slice A0_1 l0_1.length c0_1], .int .i64 a1, .int .i64 a2, .int .i64 a3, u9000_] w fun e w' => e = .returned (.int .i64 r1) ∧ Kd.R (Kd.int .i8) 72 w' w0.heap.size (fun k_ => (P4_ k_ ∨ w.heap.size ≤ k_)) u9000_ r2 ∧ Below w0.heap.size w0 w' ∧ Kept w w' (fun k_ => P4_ k_) :=
  spec_l07Behind.F_calls k (spec_l07Race.f k) (spec_l07Race.calls k) a0_0 A0_1 c0_1 l0_1 a1 a2 a3 P4_ u9000_ l4 r1 r2 w0 w hB hr0_1 hc0_1 ho4 h
end Go.Proofs.Ytbmkhdeeengbmaa.Q
