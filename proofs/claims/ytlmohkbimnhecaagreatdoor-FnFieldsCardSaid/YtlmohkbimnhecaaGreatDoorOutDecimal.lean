/-
  impl.decimal at 0 and 1: the texts of one letter. Told as the printed functions are; no condition.
-/
import Derived.Test.YtlmohkbimnhecaaGreatDoorQ0
namespace Go.Proofs.YtlmohkbimnhecaaGreatDoor.Q
open Go.RowKit Go.Proofs.YtlmohkbimnhecaaGreatDoorW.PrintWords Go.Proofs.YtlmohkbimnhecaaGreatDoorW.PrintLast Go.Proofs.YtlmohkbimnhecaaGreatDoorW.PrintMore

def impl_decimal.f (n : Int) : Option ByteArray := if n = 0 then some ⟨#[48]⟩ else if n = 1 then some ⟨#[49]⟩ else none
set_option maxRecDepth 100000
set_option maxHeartbeats 4000000 in
theorem impl_decimal.calls (a0 : Int) (r : ByteArray) (w : World) (h : impl_decimal.f a0 = some r) : Calls Tryz.prog 51 #[.int .i64 a0] w fun e w' => e = .returned (.string r) ∧ Below w.heap.size w w' := by
  unfold impl_decimal.f at h
  have hB := Below.refl w.heap.size w
  split at h
  · rename_i h0
    subst h0
    obtain rfl := Option.some.inj h
    clear h
    go_enter Tryz.func51, Tryz.ntmps51
    go_wp2
    go_ret
    exact ⟨rfl, hB⟩
  · split at h
    · rename_i h0 h1
      subst h1
      obtain rfl := Option.some.inj h
      clear h
      go_enter Tryz.func51, Tryz.ntmps51
      go_wp2
      go_ret
      exact ⟨rfl, hB⟩
    · cases h
end Go.Proofs.YtlmohkbimnhecaaGreatDoor.Q
