/-
  The reference's l03Behind and its contract, out of l03Score's.
-/
import Derived.Test.YtelfllbjcpndfaaSpecBehind
import Derived.Test.YtelfllbjcpndfaaQ4
namespace Go.Proofs.Ytelfllbjcpndfaa.Q
open Go.RowKit Go.Proofs.YtelfllbjcpndfaaW.PrintWords Go.Proofs.YtelfllbjcpndfaaW.PrintLast Go.Proofs.YtelfllbjcpndfaaW.PrintMore

def spec_l03Behind.f (k : Nat) (b0 b1 b2 e : Int) (l2 l3 : List Int) : Option (Int × List Int) := spec_l03Behind.F (spec_l03Score.f k) k b0 b1 b2 e l2 l3
theorem spec_l03Behind.mono : ∀ a0 a1 a2 a3 a4 a5 k, LeO (spec_l03Behind.f k a0 a1 a2 a3 a4 a5) (spec_l03Behind.f (k + 1) a0 a1 a2 a3 a4 a5) := by
  intro a0 a1 a2 a3 a4 a5 k
  exact spec_l03Behind.F_mono (fun _ _ _ _ _ => spec_l03Score.mono _ _ _ _ _ k) _ _ _ _ _ _ k
theorem spec_l03Behind.calls (k : Nat) (b0 b1 b2 e : Int) (A2 : Option Addr) (c2 : Nat) (l2 : List Int) (P3_ : Nat → Prop) (u9000_ : Value) (l3 : List Int) (r1 : Int) (r2 : List Int) (w0 w : World) (hB : Below w0.heap.size w0 w) (hr2 : ∀ W_, Kept w W_ (fun k_ => P3_ k_) → Kd.C (Kd.int .i64) W_ A2 l2.length l2) (hc2 : l2.length ≤ c2) (ho3 : Kd.R (Kd.int .i64) 2 w w0.heap.size P3_ u9000_ l3) (h : spec_l03Behind.f k b0 b1 b2 e l2 l3 = some (r1, r2)) :
    Calls Try.prog 53 #[.agg #[.int .i64 b0, .int .i64 b1, .int .i64 b2], .int .i64 e, .slice A2 l2.length c2, u9000_] w fun e w' => e = .returned (.int .i64 r1) ∧ Kd.R (Kd.int .i64) 2 w' w0.heap.size (fun k_ => (P3_ k_ ∨ w.heap.size ≤ k_)) u9000_ r2 ∧ Below w0.heap.size w0 w' ∧ Kept w w' (fun k_ => P3_ k_) :=
  spec_l03Behind.F_calls k (spec_l03Score.f k) (spec_l03Score.calls k) b0 b1 b2 e A2 c2 l2 P3_ u9000_ l3 r1 r2 w0 w hB hr2 hc2 ho3 h
end Go.Proofs.Ytelfllbjcpndfaa.Q
