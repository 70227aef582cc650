/-
  slices.ContainsFunc at DriveRoute's predicate, told as the printed functions are: the plain search in a list. No condition.
-/
import Derived.Test.YtikpbmgbemcheaaDoorQ12
import Derived.Test.YtikpbmgbemcheaaDoorHofInts
namespace Go.Proofs.YtikpbmgbemcheaaDoor.Q
open Go.RowKit Go.Proofs.YtikpbmgbemcheaaDoorW.PrintWords Go.Proofs.YtikpbmgbemcheaaDoorW.PrintLast Go.Proofs.YtikpbmgbemcheaaDoorW.PrintMore

def any_DriveRoute.f (l : List Int) : Option Bool := anyF impl_DriveRoute_1.f l
theorem any_DriveRoute.calls (A0 : Option Addr) (c0 : Nat) (l0 : List Int) (r : Bool) (w : World) (hr0 : Kd.C (Kd.int .i64) w A0 l0.length l0) (hc0 : l0.length ≤ c0) (h : any_DriveRoute.f l0 = some r) :
    Calls Tryd.prog 51 #[.slice A0 l0.length c0, .func (.func 52) #[] #[]] w fun e w' => e = .returned (.bool r) ∧ Drawn0 w w' :=
  containsFunc_ints 52 (enters_of Tryd.func52 (by kernel_rfl) rfl) impl_DriveRoute_1.f (fun x b W hb => impl_DriveRoute_1.calls x b W hb) A0 c0 l0 r w hr0 hc0 hr0.2.1 h
end Go.Proofs.YtikpbmgbemcheaaDoor.Q
