/-
  slices.ContainsFunc at the predicate of IsHex, told as the printed functions are: the plain search in a list. No condition.
-/
import Derived.Test.YtnecgdlhkbbpgaaQ3
import Derived.Test.YtnecgdlhkbbpgaaHofInts
namespace Go.Proofs.Ytnecgdlhkbbpgaa.Q
open Go.RowKit Go.Proofs.YtnecgdlhkbbpgaaW.PrintWords Go.Proofs.YtnecgdlhkbbpgaaW.PrintLast Go.Proofs.YtnecgdlhkbbpgaaW.PrintMore

def cf_IsHex.f (l : List Int) : Option Bool := anyF impl_IsHex_1.f l
theorem cf_IsHex.calls (A0 : Option Addr) (c0 : Nat) (l0 : List Int) (r : Bool) (w : World) (hr0 : Kd.C (Kd.int .i64) w A0 l0.length l0) (hc0 : l0.length ≤ c0) (h : cf_IsHex.f l0 = some r) :
    Calls Try.prog 40 #[.slice A0 l0.length c0, .func (.func 41) #[] #[]] w fun e w' => e = .returned (.bool r) ∧ Drawn0 w w' :=
  containsFunc_ints 41 (enters_of Try.func41 (by kernel_rfl) rfl) impl_IsHex_1.f (fun x b W hb => impl_IsHex_1.calls x b W hb) A0 c0 l0 r w hr0 hc0 hr0.2.1 h

end Go.Proofs.Ytnecgdlhkbbpgaa.Q
