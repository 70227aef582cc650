/-
  The laws' own copy of four numbers. No condition.
-/
import Derived.Test.YtjblefcdihmdbaaDoorQ0
import Derived.LoopN
namespace Go.Proofs.YtjblefcdihmdbaaDoor.Q
open Go.RowKit Go.Proofs.YtjblefcdihmdbaaDoorW.PrintWords Go.Proofs.YtjblefcdihmdbaaDoorW.PrintLast Go.Proofs.YtjblefcdihmdbaaDoorW.PrintMore

def laws_toCar.f (a0 a1 a2 a3 : Int) : Option (Int × Int × Int × Int) := some (a0, a1, a2, a3)
set_option maxRecDepth 100000
set_option maxHeartbeats 8000000 in
theorem laws_toCar.calls (a0 a1 a2 a3 r1 r2 r3 r4 : Int) (w : World) (h : laws_toCar.f a0 a1 a2 a3 = some (r1, r2, r3, r4)) :
    Calls Tryd.prog 10 #[.agg #[.int .i64 a0, .int .i64 a1, .int .i64 a2, .int .i64 a3]] w fun e w' => e = .returned (.agg #[.int .i64 r1, .int .i64 r2, .int .i64 r3, .int .i64 r4]) ∧ Below w.heap.size w w' := by
  simp only [laws_toCar.f, Option.some.injEq, Prod.mk.injEq] at h
  obtain ⟨rfl, rfl, rfl, rfl⟩ := h
  go_enter Tryd.func10, Tryd.ntmps10
  go_wp2
  refine wp_loop_rounds 5 ?_
  rw [rounds_succ]
  go_wp2
  rw [rounds_succ]
  go_wp2
  rw [rounds_succ]
  go_wp2
  rw [rounds_succ]
  go_wp2
  rw [rounds_succ]
  go_wp2
  refine bodyPost_ret (results_cell_row rfl _ _ (w.heap.size + 1) 28 #[.int .i64 a0, .int .i64 a1, .int .i64 a2, .int .i64 a3] (0, 0) _ rfl ?_ Tryd.underlying28 rfl (by kernel_rfl)) rfl ?_
  · rw [(MapKept.heap_alloc _ _).2 _ (by simp)]
    simpa using (MapKept.heap_alloc (w.alloc _) _).1
  · exact ⟨rfl, (((Below.refl _ _).alloc (Nat.le_refl _) _).alloc (by simp) _).alloc (by simp <;> omega) _⟩
end Go.Proofs.YtjblefcdihmdbaaDoor.Q
