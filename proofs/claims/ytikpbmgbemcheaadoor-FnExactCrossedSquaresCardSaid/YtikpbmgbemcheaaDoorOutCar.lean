/-
  The laws' own helpers for cars: a copy of four numbers, and whether four numbers are equal (told where they are). No condition.
-/
import Derived.Test.YtikpbmgbemcheaaDoorQ0
import Derived.LoopN
namespace Go.Proofs.YtikpbmgbemcheaaDoor.Q
open Go.RowKit Go.Proofs.YtikpbmgbemcheaaDoorW.PrintWords Go.Proofs.YtikpbmgbemcheaaDoorW.PrintLast Go.Proofs.YtikpbmgbemcheaaDoorW.PrintMore

def laws_toCar.f (a0 a1 a2 a3 : Int) : Option (Int × Int × Int × Int) := some (a0, a1, a2, a3)
def laws_eqCar.f (a0 a1 a2 a3 b0 b1 b2 b3 : Int) : Option Bool := if a0 = b0 ∧ a1 = b1 ∧ a2 = b2 ∧ a3 = b3 then some true else none
set_option maxRecDepth 100000
set_option maxHeartbeats 8000000 in
theorem laws_toCar.calls (a0 a1 a2 a3 r1 r2 r3 r4 : Int) (w : World) (h : laws_toCar.f a0 a1 a2 a3 = some (r1, r2, r3, r4)) :
    Calls Tryd.prog 18 #[.agg #[.int .i64 a0, .int .i64 a1, .int .i64 a2, .int .i64 a3]] w fun e w' => e = .returned (.agg #[.int .i64 r1, .int .i64 r2, .int .i64 r3, .int .i64 r4]) ∧ Below w.heap.size w w' := by
  simp only [laws_toCar.f, Option.some.injEq, Prod.mk.injEq] at h
  obtain ⟨rfl, rfl, rfl, rfl⟩ := h
  go_enter Tryd.func18, Tryd.ntmps18
  go_wp2
  refine wp_loop_rounds 5 ?_
  rw [rounds_succ]
  go_wp2
  rw [rounds_succ]
  go_wp2
  rw [rounds_succ]
  go_wp2
  rw [rounds_succ]
  go_wp2
  rw [rounds_succ]
  go_wp2
  refine bodyPost_ret (results_cell_row rfl _ _ (w.heap.size + 1) 28 #[.int .i64 a0, .int .i64 a1, .int .i64 a2, .int .i64 a3] (0, 0) _ rfl ?_ Tryd.underlying28 rfl (by kernel_rfl)) rfl ?_
  · rw [(MapKept.heap_alloc _ _).2 _ (by simp)]
    simpa using (MapKept.heap_alloc (w.alloc _) _).1
  · exact ⟨rfl, (((Below.refl _ _).alloc (Nat.le_refl _) _).alloc (by simp) _).alloc (by simp <;> omega) _⟩
def CarS (w : World) (a0 a1 a2 a3 : Int) (w' : World) : Prop := w'.cell? ⟨w.heap.size, 0, none⟩ = some (.int .i64 a0) ∧ w'.cell? ⟨w.heap.size, 1, none⟩ = some (.int .i64 a1) ∧ w'.cell? ⟨w.heap.size, 2, none⟩ = some (.int .i64 a2) ∧ w'.cell? ⟨w.heap.size, 3, none⟩ = some (.int .i64 a3) ∧ w'.cell? ⟨w.heap.size + 1, 0, none⟩ = some (.int .i64 a0) ∧ w'.cell? ⟨w.heap.size + 1, 1, none⟩ = some (.int .i64 a1) ∧ w'.cell? ⟨w.heap.size + 1, 2, none⟩ = some (.int .i64 a2) ∧ w'.cell? ⟨w.heap.size + 1, 3, none⟩ = some (.int .i64 a3) ∧ Aside0 (Below w.heap.size w w')
theorem CarS.drew {w w' : World} {a0 a1 a2 a3 : Int} (h : CarS w a0 a1 a2 a3 w') : CarS w a0 a1 a2 a3 w'.drew := by
  obtain ⟨x0, x1, x2, x3, y0, y1, y2, y3, hb⟩ := h
  exact ⟨by simpa using x0, by simpa using x1, by simpa using x2, by simpa using x3, by simpa using y0, by simpa using y1, by simpa using y2, by simpa using y3, ⟨below_drew hb.out⟩⟩
set_option maxHeartbeats 8000000 in
theorem laws_eqCar.calls (a0 a1 a2 a3 b0 b1 b2 b3 : Int) (r : Bool) (w : World) (h : laws_eqCar.f a0 a1 a2 a3 b0 b1 b2 b3 = some r) :
    Calls Tryd.prog 16 #[.agg #[.int .i64 a0, .int .i64 a1, .int .i64 a2, .int .i64 a3], .agg #[.int .i64 b0, .int .i64 b1, .int .i64 b2, .int .i64 b3]] w fun e w' => e = .returned (.bool r) ∧ Below w.heap.size w w' := by
  unfold laws_eqCar.f at h
  split at h
  rotate_left
  · cases h
  rename_i h0
  obtain ⟨rfl, rfl, rfl, rfl⟩ := h0
  obtain rfl := Option.some.inj h
  clear h
  generalize hw2 : (w.alloc (.cells #[.int .i64 a0, .int .i64 a1, .int .i64 a2, .int .i64 a3] 28)).alloc (.cells #[.int .i64 a0, .int .i64 a1, .int .i64 a2, .int .i64 a3] 28) = w2
  have HB : Aside0 (w2.heap[w.heap.size]? = some (.cells #[.int .i64 a0, .int .i64 a1, .int .i64 a2, .int .i64 a3] 28 (0, 0)) ∧ w2.heap[w.heap.size + 1]? = some (.cells #[.int .i64 a0, .int .i64 a1, .int .i64 a2, .int .i64 a3] 28 (0, 0)) ∧ Below w.heap.size w w2) := ⟨by
    rw [← hw2]
    refine ⟨?_, ?_, ((Below.refl _ _).alloc (Nat.le_refl _) _).alloc (by simp <;> omega) _⟩
    · rw [(MapKept.heap_alloc _ _).2 _ (by simp)]
      exact (MapKept.heap_alloc w _).1
    · simpa using (MapKept.heap_alloc (w.alloc _) _).1⟩
  have hc : CarS w a0 a1 a2 a3 w2 := ⟨blk_cell HB.out.1 0, blk_cell HB.out.1 1, blk_cell HB.out.1 2, blk_cell HB.out.1 3, blk_cell HB.out.2.1 0, blk_cell HB.out.2.1 1, blk_cell HB.out.2.1 2, blk_cell HB.out.2.1 3, ⟨HB.out.2.2⟩⟩
  go_enter Tryd.func16, Tryd.ntmps16
  go_wp2
  refine wp_loop_rounds 5 ?_
  rw [rounds_succ]
  go_wp2
  go_region_held3 (fun w' => w'.cell? ⟨w.heap.size, 0, none⟩ = some (.int .i64 a0) ∧ w'.cell? ⟨w.heap.size, 1, none⟩ = some (.int .i64 a1) ∧ w'.cell? ⟨w.heap.size, 2, none⟩ = some (.int .i64 a2) ∧ w'.cell? ⟨w.heap.size, 3, none⟩ = some (.int .i64 a3) ∧ w'.cell? ⟨w.heap.size + 1, 0, none⟩ = some (.int .i64 a0) ∧ w'.cell? ⟨w.heap.size + 1, 1, none⟩ = some (.int .i64 a1) ∧ w'.cell? ⟨w.heap.size + 1, 2, none⟩ = some (.int .i64 a2) ∧ w'.cell? ⟨w.heap.size + 1, 3, none⟩ = some (.int .i64 a3) ∧ Aside0 (Below w.heap.size w w'))
    (first | exact CarS.drew hc) (fail)
  rename_i hc
  go_wp2
  rw [rounds_succ]
  go_wp2
  go_region_held3 (fun w' => w'.cell? ⟨w.heap.size, 0, none⟩ = some (.int .i64 a0) ∧ w'.cell? ⟨w.heap.size, 1, none⟩ = some (.int .i64 a1) ∧ w'.cell? ⟨w.heap.size, 2, none⟩ = some (.int .i64 a2) ∧ w'.cell? ⟨w.heap.size, 3, none⟩ = some (.int .i64 a3) ∧ w'.cell? ⟨w.heap.size + 1, 0, none⟩ = some (.int .i64 a0) ∧ w'.cell? ⟨w.heap.size + 1, 1, none⟩ = some (.int .i64 a1) ∧ w'.cell? ⟨w.heap.size + 1, 2, none⟩ = some (.int .i64 a2) ∧ w'.cell? ⟨w.heap.size + 1, 3, none⟩ = some (.int .i64 a3) ∧ Aside0 (Below w.heap.size w w'))
    (first | exact CarS.drew hc) (fail)
  rename_i hc
  go_wp2
  rw [rounds_succ]
  go_wp2
  go_region_held3 (fun w' => w'.cell? ⟨w.heap.size, 0, none⟩ = some (.int .i64 a0) ∧ w'.cell? ⟨w.heap.size, 1, none⟩ = some (.int .i64 a1) ∧ w'.cell? ⟨w.heap.size, 2, none⟩ = some (.int .i64 a2) ∧ w'.cell? ⟨w.heap.size, 3, none⟩ = some (.int .i64 a3) ∧ w'.cell? ⟨w.heap.size + 1, 0, none⟩ = some (.int .i64 a0) ∧ w'.cell? ⟨w.heap.size + 1, 1, none⟩ = some (.int .i64 a1) ∧ w'.cell? ⟨w.heap.size + 1, 2, none⟩ = some (.int .i64 a2) ∧ w'.cell? ⟨w.heap.size + 1, 3, none⟩ = some (.int .i64 a3) ∧ Aside0 (Below w.heap.size w w'))
    (first | exact CarS.drew hc) (fail)
  rename_i hc
  go_wp2
  rw [rounds_succ]
  go_wp2
  go_region_held3 (fun w' => w'.cell? ⟨w.heap.size, 0, none⟩ = some (.int .i64 a0) ∧ w'.cell? ⟨w.heap.size, 1, none⟩ = some (.int .i64 a1) ∧ w'.cell? ⟨w.heap.size, 2, none⟩ = some (.int .i64 a2) ∧ w'.cell? ⟨w.heap.size, 3, none⟩ = some (.int .i64 a3) ∧ w'.cell? ⟨w.heap.size + 1, 0, none⟩ = some (.int .i64 a0) ∧ w'.cell? ⟨w.heap.size + 1, 1, none⟩ = some (.int .i64 a1) ∧ w'.cell? ⟨w.heap.size + 1, 2, none⟩ = some (.int .i64 a2) ∧ w'.cell? ⟨w.heap.size + 1, 3, none⟩ = some (.int .i64 a3) ∧ Aside0 (Below w.heap.size w w'))
    (first | exact CarS.drew hc) (fail)
  rename_i hc
  go_wp2
  rw [rounds_succ]
  go_wp2
  go_ret
  exact ⟨rfl, hc.2.2.2.2.2.2.2.2.out⟩
end Go.Proofs.YtikpbmgbemcheaaDoor.Q
