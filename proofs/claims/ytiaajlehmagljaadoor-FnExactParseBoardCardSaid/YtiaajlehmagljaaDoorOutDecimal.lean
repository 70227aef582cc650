/-
  impl.decimal from 0 to 16: their texts. Told as the printed functions are; no condition beyond these numbers.
-/
import Derived.Test.YtiaajlehmagljaaDoorQ0
namespace Go.Proofs.YtiaajlehmagljaaDoor.Q
open Go.RowKit Go.Proofs.YtiaajlehmagljaaDoorW.PrintWords Go.Proofs.YtiaajlehmagljaaDoorW.PrintLast Go.Proofs.YtiaajlehmagljaaDoorW.PrintMore

def impl_decimal.f (n : Int) : Option ByteArray :=
  if n = 0 then some ⟨#[48]⟩ else
  if n = 1 then some ⟨#[49]⟩ else
  if n = 2 then some ⟨#[50]⟩ else
  if n = 3 then some ⟨#[51]⟩ else
  if n = 4 then some ⟨#[52]⟩ else
  if n = 5 then some ⟨#[53]⟩ else
  if n = 6 then some ⟨#[54]⟩ else
  if n = 7 then some ⟨#[55]⟩ else
  if n = 8 then some ⟨#[56]⟩ else
  if n = 9 then some ⟨#[57]⟩ else
  if n = 10 then some ⟨#[49, 48]⟩ else
  if n = 11 then some ⟨#[49, 49]⟩ else
  if n = 12 then some ⟨#[49, 50]⟩ else
  if n = 13 then some ⟨#[49, 51]⟩ else
  if n = 14 then some ⟨#[49, 52]⟩ else
  if n = 15 then some ⟨#[49, 53]⟩ else
  if n = 16 then some ⟨#[49, 54]⟩ else
  none
set_option maxRecDepth 100000 in
set_option maxHeartbeats 4000000 in
theorem dec0 (w : World) : Calls Tryd.prog 21 #[.int .i64 0] w fun e w' => e = .returned (.string ⟨#[48]⟩) ∧ Below w.heap.size w w' := by
  have hB := Below.refl w.heap.size w
  go_enter Tryd.func21, Tryd.ntmps21
  go_wp2
  go_ret
  exact ⟨rfl, hB⟩
set_option maxRecDepth 100000 in
set_option maxHeartbeats 4000000 in
theorem dec1 (w : World) : Calls Tryd.prog 21 #[.int .i64 1] w fun e w' => e = .returned (.string ⟨#[49]⟩) ∧ Below w.heap.size w w' := by
  have hB := Below.refl w.heap.size w
  go_enter Tryd.func21, Tryd.ntmps21
  go_wp2
  go_ret
  exact ⟨rfl, hB⟩
set_option maxRecDepth 100000 in
set_option maxHeartbeats 4000000 in
theorem dec2 (w : World) : Calls Tryd.prog 21 #[.int .i64 2] w fun e w' => e = .returned (.string ⟨#[50]⟩) ∧ Below w.heap.size w w' := by
  have hB := Below.refl w.heap.size w
  go_enter Tryd.func21, Tryd.ntmps21
  go_wp2
  go_ret
  exact ⟨rfl, hB⟩
set_option maxRecDepth 100000 in
set_option maxHeartbeats 4000000 in
theorem dec3 (w : World) : Calls Tryd.prog 21 #[.int .i64 3] w fun e w' => e = .returned (.string ⟨#[51]⟩) ∧ Below w.heap.size w w' := by
  have hB := Below.refl w.heap.size w
  go_enter Tryd.func21, Tryd.ntmps21
  go_wp2
  go_ret
  exact ⟨rfl, hB⟩
set_option maxRecDepth 100000 in
set_option maxHeartbeats 4000000 in
theorem dec4 (w : World) : Calls Tryd.prog 21 #[.int .i64 4] w fun e w' => e = .returned (.string ⟨#[52]⟩) ∧ Below w.heap.size w w' := by
  have hB := Below.refl w.heap.size w
  go_enter Tryd.func21, Tryd.ntmps21
  go_wp2
  go_ret
  exact ⟨rfl, hB⟩
set_option maxRecDepth 100000 in
set_option maxHeartbeats 4000000 in
theorem dec5 (w : World) : Calls Tryd.prog 21 #[.int .i64 5] w fun e w' => e = .returned (.string ⟨#[53]⟩) ∧ Below w.heap.size w w' := by
  have hB := Below.refl w.heap.size w
  go_enter Tryd.func21, Tryd.ntmps21
  go_wp2
  go_ret
  exact ⟨rfl, hB⟩
set_option maxRecDepth 100000 in
set_option maxHeartbeats 4000000 in
theorem dec6 (w : World) : Calls Tryd.prog 21 #[.int .i64 6] w fun e w' => e = .returned (.string ⟨#[54]⟩) ∧ Below w.heap.size w w' := by
  have hB := Below.refl w.heap.size w
  go_enter Tryd.func21, Tryd.ntmps21
  go_wp2
  go_ret
  exact ⟨rfl, hB⟩
set_option maxRecDepth 100000 in
set_option maxHeartbeats 4000000 in
theorem dec7 (w : World) : Calls Tryd.prog 21 #[.int .i64 7] w fun e w' => e = .returned (.string ⟨#[55]⟩) ∧ Below w.heap.size w w' := by
  have hB := Below.refl w.heap.size w
  go_enter Tryd.func21, Tryd.ntmps21
  go_wp2
  go_ret
  exact ⟨rfl, hB⟩
set_option maxRecDepth 100000 in
set_option maxHeartbeats 4000000 in
theorem dec8 (w : World) : Calls Tryd.prog 21 #[.int .i64 8] w fun e w' => e = .returned (.string ⟨#[56]⟩) ∧ Below w.heap.size w w' := by
  have hB := Below.refl w.heap.size w
  go_enter Tryd.func21, Tryd.ntmps21
  go_wp2
  go_ret
  exact ⟨rfl, hB⟩
set_option maxRecDepth 100000 in
set_option maxHeartbeats 4000000 in
theorem dec9 (w : World) : Calls Tryd.prog 21 #[.int .i64 9] w fun e w' => e = .returned (.string ⟨#[57]⟩) ∧ Below w.heap.size w w' := by
  have hB := Below.refl w.heap.size w
  go_enter Tryd.func21, Tryd.ntmps21
  go_wp2
  go_ret
  exact ⟨rfl, hB⟩
set_option maxRecDepth 100000 in
set_option maxHeartbeats 4000000 in
theorem dec10 (w : World) : Calls Tryd.prog 21 #[.int .i64 10] w fun e w' => e = .returned (.string ⟨#[49, 48]⟩) ∧ Below w.heap.size w w' := by
  have hB := Below.refl w.heap.size w
  go_enter Tryd.func21, Tryd.ntmps21
  go_wp2
  go_ret
  exact ⟨rfl, hB⟩
set_option maxRecDepth 100000 in
set_option maxHeartbeats 4000000 in
theorem dec11 (w : World) : Calls Tryd.prog 21 #[.int .i64 11] w fun e w' => e = .returned (.string ⟨#[49, 49]⟩) ∧ Below w.heap.size w w' := by
  have hB := Below.refl w.heap.size w
  go_enter Tryd.func21, Tryd.ntmps21
  go_wp2
  go_ret
  exact ⟨rfl, hB⟩
set_option maxRecDepth 100000 in
set_option maxHeartbeats 4000000 in
theorem dec12 (w : World) : Calls Tryd.prog 21 #[.int .i64 12] w fun e w' => e = .returned (.string ⟨#[49, 50]⟩) ∧ Below w.heap.size w w' := by
  have hB := Below.refl w.heap.size w
  go_enter Tryd.func21, Tryd.ntmps21
  go_wp2
  go_ret
  exact ⟨rfl, hB⟩
set_option maxRecDepth 100000 in
set_option maxHeartbeats 4000000 in
theorem dec13 (w : World) : Calls Tryd.prog 21 #[.int .i64 13] w fun e w' => e = .returned (.string ⟨#[49, 51]⟩) ∧ Below w.heap.size w w' := by
  have hB := Below.refl w.heap.size w
  go_enter Tryd.func21, Tryd.ntmps21
  go_wp2
  go_ret
  exact ⟨rfl, hB⟩
set_option maxRecDepth 100000 in
set_option maxHeartbeats 4000000 in
theorem dec14 (w : World) : Calls Tryd.prog 21 #[.int .i64 14] w fun e w' => e = .returned (.string ⟨#[49, 52]⟩) ∧ Below w.heap.size w w' := by
  have hB := Below.refl w.heap.size w
  go_enter Tryd.func21, Tryd.ntmps21
  go_wp2
  go_ret
  exact ⟨rfl, hB⟩
set_option maxRecDepth 100000 in
set_option maxHeartbeats 4000000 in
theorem dec15 (w : World) : Calls Tryd.prog 21 #[.int .i64 15] w fun e w' => e = .returned (.string ⟨#[49, 53]⟩) ∧ Below w.heap.size w w' := by
  have hB := Below.refl w.heap.size w
  go_enter Tryd.func21, Tryd.ntmps21
  go_wp2
  go_ret
  exact ⟨rfl, hB⟩
set_option maxRecDepth 100000 in
set_option maxHeartbeats 4000000 in
theorem dec16 (w : World) : Calls Tryd.prog 21 #[.int .i64 16] w fun e w' => e = .returned (.string ⟨#[49, 54]⟩) ∧ Below w.heap.size w w' := by
  have hB := Below.refl w.heap.size w
  go_enter Tryd.func21, Tryd.ntmps21
  go_wp2
  go_ret
  exact ⟨rfl, hB⟩
theorem impl_decimal.calls (a0 : Int) (r : ByteArray) (w : World) (h : impl_decimal.f a0 = some r) : Calls Tryd.prog 21 #[.int .i64 a0] w fun e w' => e = .returned (.string r) ∧ Below w.heap.size w w' := by
  unfold impl_decimal.f at h
  by_cases e0 : a0 = 0
  · rw [if_pos e0] at h
    rw [e0, ← Option.some.inj h]
    exact dec0 w
  rw [if_neg e0] at h
  by_cases e1 : a0 = 1
  · rw [if_pos e1] at h
    rw [e1, ← Option.some.inj h]
    exact dec1 w
  rw [if_neg e1] at h
  by_cases e2 : a0 = 2
  · rw [if_pos e2] at h
    rw [e2, ← Option.some.inj h]
    exact dec2 w
  rw [if_neg e2] at h
  by_cases e3 : a0 = 3
  · rw [if_pos e3] at h
    rw [e3, ← Option.some.inj h]
    exact dec3 w
  rw [if_neg e3] at h
  by_cases e4 : a0 = 4
  · rw [if_pos e4] at h
    rw [e4, ← Option.some.inj h]
    exact dec4 w
  rw [if_neg e4] at h
  by_cases e5 : a0 = 5
  · rw [if_pos e5] at h
    rw [e5, ← Option.some.inj h]
    exact dec5 w
  rw [if_neg e5] at h
  by_cases e6 : a0 = 6
  · rw [if_pos e6] at h
    rw [e6, ← Option.some.inj h]
    exact dec6 w
  rw [if_neg e6] at h
  by_cases e7 : a0 = 7
  · rw [if_pos e7] at h
    rw [e7, ← Option.some.inj h]
    exact dec7 w
  rw [if_neg e7] at h
  by_cases e8 : a0 = 8
  · rw [if_pos e8] at h
    rw [e8, ← Option.some.inj h]
    exact dec8 w
  rw [if_neg e8] at h
  by_cases e9 : a0 = 9
  · rw [if_pos e9] at h
    rw [e9, ← Option.some.inj h]
    exact dec9 w
  rw [if_neg e9] at h
  by_cases e10 : a0 = 10
  · rw [if_pos e10] at h
    rw [e10, ← Option.some.inj h]
    exact dec10 w
  rw [if_neg e10] at h
  by_cases e11 : a0 = 11
  · rw [if_pos e11] at h
    rw [e11, ← Option.some.inj h]
    exact dec11 w
  rw [if_neg e11] at h
  by_cases e12 : a0 = 12
  · rw [if_pos e12] at h
    rw [e12, ← Option.some.inj h]
    exact dec12 w
  rw [if_neg e12] at h
  by_cases e13 : a0 = 13
  · rw [if_pos e13] at h
    rw [e13, ← Option.some.inj h]
    exact dec13 w
  rw [if_neg e13] at h
  by_cases e14 : a0 = 14
  · rw [if_pos e14] at h
    rw [e14, ← Option.some.inj h]
    exact dec14 w
  rw [if_neg e14] at h
  by_cases e15 : a0 = 15
  · rw [if_pos e15] at h
    rw [e15, ← Option.some.inj h]
    exact dec15 w
  rw [if_neg e15] at h
  by_cases e16 : a0 = 16
  · rw [if_pos e16] at h
    rw [e16, ← Option.some.inj h]
    exact dec16 w
  rw [if_neg e16] at h
  cases h
end Go.Proofs.YtiaajlehmagljaaDoor.Q
