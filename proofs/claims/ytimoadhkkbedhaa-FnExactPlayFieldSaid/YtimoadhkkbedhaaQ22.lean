-- Written by a program of this session (wip/tools/px.sh) over the seat's translation; Lean checks it.
import Derived.Test.YtimoadhkkbedhaaQ0
import Derived.Test.YtimoadhkkbedhaaQ4
import Derived.Test.YtimoadhkkbedhaaQ5
import Derived.Test.YtimoadhkkbedhaaQ6
import Derived.Test.YtimoadhkkbedhaaQ8
import Derived.Test.YtimoadhkkbedhaaQ12
namespace Go.Proofs.Ytimoadhkkbedhaa.Q
open Go.RowKit Go.Proofs.YtimoadhkkbedhaaW.PrintWords Go.Proofs.YtimoadhkkbedhaaW.PrintLast Go.Proofs.YtimoadhkkbedhaaW.PrintMore
attribute [local go_sem] max2_int min2_int max_two min_two max_three min_three max_four min_four   -- for this text's walks alone
set_option linter.unusedVariables false
set_option linter.unusedSimpArgs false

/-! ### spec_PlayField: function 30 -/
def spec_PlayField.l0 : Nat → Int → Int → List Int → List Int → Int → Int → Int → Int → Option (List Int × Int)
  | 0, _, _, _, _, _, _, _, _ => none
  | k + 1, x1, x2, x9, x10, x550000, x550001, x550002, x550003 => (spec_l05Best.f k x550000 x550001 x550002 x550003 x1 x2 x9).bind fun bt557 => (if (bt557.1.length : Int) = 0 then ((spec_l05Points.f k x550000 x550001 x550002 x550003 x1 x2).bind fun t561 => (if (t561.length : Int) = 0 then (some (x10, 0)) else (if 0 < (t561.length : Int) then (if x10.length < 17592186044416 then ((spec_l05Move.f x550000 x550001 x550002 x550003 x2 (rd t561 0)).bind fun bt569 => (spec_PlayField.l0 k x1 (wrap64 (1 - x2)) bt557.2 (x10 ++ [rd t561 0]) bt569.1 bt569.2.1 bt569.2.2.1 bt569.2.2.2)) else (none)) else (none)))) else (if 0 < (bt557.1.length : Int) then (if x10.length < 17592186044416 then ((spec_l05Move.f x550000 x550001 x550002 x550003 x2 (rd bt557.1 0)).bind fun bt578 => (spec_PlayField.l0 k x1 (wrap64 (1 - x2)) bt557.2 (x10 ++ [rd bt557.1 0]) bt578.1 bt578.2.1 bt578.2.2.1 bt578.2.2.2)) else (none)) else (none)))
def spec_PlayField.f (k : Nat) (a0_0 : Int) (a0_1 : Int) (a0_2 : Int) (a0_3 : Int) (a1 : Int) (a2 : Int) : Option (List Int × Int) := (spec_l05Player.f k a0_0 a0_1 a0_2 a0_3 a1 a2).bind fun t550 => (if t550 = 0 then ((spec_l05Table.f k a0_0 a0_1 a0_2 a0_3).bind fun t551 => (spec_PlayField.l0 k a1 a2 t551 (([] : List Int)) a0_0 a0_1 a0_2 a0_3)) else (some (([] : List Int), t550)))
theorem spec_PlayField.mono_l : ∀ k, (∀ y0 y1 y2 y3 y4 y5 y6 y7, LeO (spec_PlayField.l0 k y0 y1 y2 y3 y4 y5 y6 y7) (spec_PlayField.l0 (k + 1) y0 y1 y2 y3 y4 y5 y6 y7))
  | 0 => fun _ _ _ _ _ _ _ _ r h => by simp [spec_PlayField.l0] at h
  | k + 1 => by
    have ih0 := spec_PlayField.mono_l k
    · intro y0 y1 y2 y3 y4 y5 y6 y7
      unfold spec_PlayField.l0
      repeat' first
      | (with_reducible exact ih0 _ _ _ _ _ _ _ _)
      | (with_reducible exact spec_l05Best.mono _ _ _ _ _ _ _ _)
      | (with_reducible exact spec_l05Player.mono _ _ _ _ _ _ _)
      | (with_reducible exact spec_l05Points.mono _ _ _ _ _ _ _)
      | (with_reducible exact spec_l05Table.mono _ _ _ _ _)
      | (with_reducible exact LeO.refl _)
      | (with_reducible exact LeO.none _)
      | (with_reducible refine LeO.ite ?_ ?_)
      | (with_reducible refine LeO.bind ?_ (fun _ => ?_))
      | exact ih0 _ _ _ _ _ _ _ _
      | exact spec_l05Best.mono _ _ _ _ _ _ _ _
      | exact spec_l05Player.mono _ _ _ _ _ _ _
      | exact spec_l05Points.mono _ _ _ _ _ _ _
      | exact spec_l05Table.mono _ _ _ _ _
      | exact LeO.none _
      | refine LeO.ite ?_ ?_
      | refine LeO.bind ?_ (fun _ => ?_)
theorem spec_PlayField.mono : ∀ a0 a1 a2 a3 a4 a5 k, LeO (spec_PlayField.f k a0 a1 a2 a3 a4 a5) (spec_PlayField.f (k + 1) a0 a1 a2 a3 a4 a5) := by
  intro a0 a1 a2 a3 a4 a5 k
  have ih0 := spec_PlayField.mono_l k
  unfold spec_PlayField.f
  repeat' first
      | (with_reducible exact ih0 _ _ _ _ _ _ _ _)
      | (with_reducible exact spec_l05Best.mono _ _ _ _ _ _ _ _)
      | (with_reducible exact spec_l05Player.mono _ _ _ _ _ _ _)
      | (with_reducible exact spec_l05Points.mono _ _ _ _ _ _ _)
      | (with_reducible exact spec_l05Table.mono _ _ _ _ _)
      | (with_reducible exact LeO.refl _)
      | (with_reducible exact LeO.none _)
      | (with_reducible refine LeO.ite ?_ ?_)
      | (with_reducible refine LeO.bind ?_ (fun _ => ?_))
      | exact ih0 _ _ _ _ _ _ _ _
      | exact spec_l05Best.mono _ _ _ _ _ _ _ _
      | exact spec_l05Player.mono _ _ _ _ _ _ _
      | exact spec_l05Points.mono _ _ _ _ _ _ _
      | exact spec_l05Table.mono _ _ _ _ _
      | exact LeO.none _
      | refine LeO.ite ?_ ?_
      | refine LeO.bind ?_ (fun _ => ?_)
set_option maxHeartbeats 8000000 in
set_option maxRecDepth 100000 in
theorem spec_PlayField.calls (k : Nat) (a0_0 : Int) (a0_1 : Int) (a0_2 : Int) (a0_3 : Int) (a1 : Int) (a2 : Int) (r1 : List Int) (r2 : Int) (w : World) (h : spec_PlayField.f k a0_0 a0_1 a0_2 a0_3 a1 a2 = some (r1, r2)) :
    Calls Try.prog 30 #[.agg #[.int .i64 a0_0, .int .i64 a0_1, .int .i64 a0_2, .int .i64 a0_3], .int .i64 a1, .int .i64 a2] w fun e w' => ∃ v0_ : Value, e = .returned (.tuple #[v0_, .int .i64 r2]) ∧ Kd.R (Kd.int .i64) 2 w' w.heap.size (fun _ => True) v0_ r1 ∧ Below w.heap.size w w' := by
  have hu24 := Try.underlying24
  have HB := Aside0.mk (Below.refl w.heap.size w)
  have H : ((spec_l05Player.f k a0_0 a0_1 a0_2 a0_3 a1 a2).bind fun t550 => (if t550 = 0 then ((spec_l05Table.f k a0_0 a0_1 a0_2 a0_3).bind fun t551 => (spec_PlayField.l0 k a1 a2 t551 (([] : List Int)) a0_0 a0_1 a0_2 a0_3)) else (some (([] : List Int), t550)))) = some (r1, r2) := h
  clear h
  replace H := Option.bind_eq_some_iff.mp H
  obtain ⟨t550, A40, H⟩ := H
  replace H : (if t550 = 0 then ((spec_l05Table.f k a0_0 a0_1 a0_2 a0_3).bind fun t551 => (spec_PlayField.l0 k a1 a2 t551 (([] : List Int)) a0_0 a0_1 a0_2 a0_3)) else (some (([] : List Int), t550))) = some (r1, r2) := H
  have A4 := Aside0.mk A40
  clear A40
  by_cases c5 : t550 = 0
  · rw [if_pos c5] at H
    have c5b0 : (t550 == 0) = true := beq_iff_eq.mpr c5
    have c5b1 : (t550 != 0) = false := bne_eq_false_iff_eq.mpr c5
    clear c5
    replace H := Option.bind_eq_some_iff.mp H
    obtain ⟨t551, A60, H⟩ := H
    replace H : (spec_PlayField.l0 k a1 a2 t551 (([] : List Int)) a0_0 a0_1 a0_2 a0_3) = some (r1, r2) := H
    have A6 := Aside0.mk A60
    clear A60
    obtain ⟨y554, hy554⟩ : ∃ y_ : List Int, y_ = (([] : List Int)) := ⟨_, rfl⟩
    replace H : (spec_PlayField.l0 k a1 a2 t551 y554 a0_0 a0_1 a0_2 a0_3) = some (r1, r2) := by first | (rw [hy554]; with_reducible exact H) | (have H2_ := (Option.bind_some _ _).symm.trans H; rw [hy554]; with_reducible exact H2_) | (have H2_ := (Option.bind_some _ _).symm.trans H; with_reducible exact H2_) | with_reducible exact H | (rw [hy554]; exact H) | exact H
    have Ny554 := Aside0.mk hy554
    clear hy554
    have H' := Aside0.mk H
    clear H
    go_enter Try.func30, Try.ntmps30
    go_wp2_with (first | ((with_reducible refine gate_dst (N := 3) rfl ?_); refine box_event ?hg (N := 3) ?hd (cs := #[.int .i64 a0_0, .int .i64 a0_1, .int .i64 a0_2, .int .i64 a0_3]) (t := 24) ?hr ?_; (case hd => rfl); (case hg => rfl); (case hr => first | (go_simp; done) | (go_simp; rfl)); intro gb549 hg w7 hbox hb; have n0_ := Aside0.mk (below_step (by repeat (first | (with_reducible first | exact HB.out | apply below_alloc | apply pw_below_drewN | apply below_drew1) | exact HB.out)) hb); have n1_ := Aside0.mk (hbox); have n2_ := Aside0.mk ((by rw [hg]; exact (below_size (by repeat (first | (with_reducible first | exact HB.out | apply below_alloc | apply pw_below_drewN | apply below_drew1) | exact HB.out))) : w.heap.size ≤ gb549)); have n3_ := Aside0.mk ((by rw [hg]; exact (below_size (by repeat (first | (with_reducible first | exact HB.out | apply below_alloc | apply pw_below_drewN | apply below_drew1) | exact HB.out))) : w.heap.size ≤ gb549)); clear HB; have HB := n0_; have BK549 := n1_; have GW549 := n2_; have GE549 := n3_; clear n0_ n1_ n2_ n3_; clear hb hbox hg; have hcz8_0 : w7.cell? ⟨gb549, 0, none⟩ = some (.int .i64 a0_0) := (blk_cell BK549.out 0).trans rfl; have hcz8_1 : w7.cell? ⟨gb549, 1, none⟩ = some (.int .i64 a0_1) := (blk_cell BK549.out 1).trans rfl; have hcz8_2 : w7.cell? ⟨gb549, 2, none⟩ = some (.int .i64 a0_2) := (blk_cell BK549.out 2).trans rfl; have hcz8_3 : w7.cell? ⟨gb549, 3, none⟩ = some (.int .i64 a0_3) := (blk_cell BK549.out 3).trans rfl; have hfz8_0 := blk_frozen BK549.out 0; have hfz8_1 := blk_frozen BK549.out 1; have hfz8_2 := blk_frozen BK549.out 2; have hfz8_3 := blk_frozen BK549.out 3) | ((with_reducible refine gate_callee (f := 38) rfl ?_); refine goesL_ (some 15) rfl rfl Try.func38 (by kernel_rfl) rfl #[.agg #[.int .i64 a0_0, .int .i64 a0_1, .int .i64 a0_2, .int .i64 a0_3], .int .i64 a1, .int .i64 a2] rfl (by (try simp only [List.map_toArray, List.map_cons, List.map_nil]); first | done | rfl | (simp only [List.length_drop, List.length_take]; rfl)) ?_; (with_reducible refine (spec_l05Player.calls k a0_0 a0_1 a0_2 a0_3 a1 a2 t550 _ A4.out).mono ?_); rintro e w9 ⟨rfl, hb⟩; refine ⟨_, rfl, ?_⟩; have n0_ := Aside0.mk (blk_below (g := gb549) (o := .cells #[.int .i64 a0_0, .int .i64 a0_1, .int .i64 a0_2, .int .i64 a0_3] 24 (0, 0)) (by (with_reducible repeat (first | refine blk_drewN ?_ _ | refine blk_drew ?_ | refine blk_alloc ?_ _)); exact BK549.out) hb); have n1_ := Aside0.mk (below_step (by repeat (first | (with_reducible first | exact HB.out | apply below_alloc | apply pw_below_drewN | apply below_drew1 | refine below_set ?_ GE549.out) | exact HB.out)) hb); clear BK549; clear HB; have BK549 := n0_; have HB := n1_; clear n0_ n1_; (try clear hb); (try clear hb2); (try clear hk); (try clear hi); have hcz10_0 : w9.cell? ⟨gb549, 0, none⟩ = some (.int .i64 a0_0) := (blk_cell BK549.out 0).trans rfl; have hcz10_1 : w9.cell? ⟨gb549, 1, none⟩ = some (.int .i64 a0_1) := (blk_cell BK549.out 1).trans rfl; have hcz10_2 : w9.cell? ⟨gb549, 2, none⟩ = some (.int .i64 a0_2) := (blk_cell BK549.out 2).trans rfl; have hcz10_3 : w9.cell? ⟨gb549, 3, none⟩ = some (.int .i64 a0_3) := (blk_cell BK549.out 3).trans rfl; have hfz10_0 := blk_frozen BK549.out 0; have hfz10_1 := blk_frozen BK549.out 1; have hfz10_2 := blk_frozen BK549.out 2; have hfz10_3 := blk_frozen BK549.out 3) | ((with_reducible refine gate_callee (f := 50) rfl ?_); refine goesL_ (some 20) rfl rfl Try.func50 (by kernel_rfl) rfl #[.agg #[.int .i64 a0_0, .int .i64 a0_1, .int .i64 a0_2, .int .i64 a0_3]] rfl (by (try simp only [List.map_toArray, List.map_cons, List.map_nil]); first | done | rfl | (simp only [List.length_drop, List.length_take]; rfl)) ?_; (with_reducible refine (spec_l05Table.calls k a0_0 a0_1 a0_2 a0_3 t551 _ A6.out).mono ?_); rintro e w11 ⟨v552, rfl, ho0, hb⟩; refine ⟨_, rfl, ?_⟩; have n0_ := Aside0.mk (Kd.R_lower ho0 (below_size (by repeat (first | (with_reducible first | exact HB.out | apply below_alloc | apply pw_below_drewN | apply below_drew1 | refine below_set ?_ GE549.out) | exact HB.out)))); have n1_ := Aside0.mk (blk_below (g := gb549) (o := .cells #[.int .i64 a0_0, .int .i64 a0_1, .int .i64 a0_2, .int .i64 a0_3] 24 (0, 0)) (by (with_reducible repeat (first | refine blk_drewN ?_ _ | refine blk_drew ?_ | refine blk_alloc ?_ _)); exact BK549.out) hb); have n2_ := Aside0.mk (below_step (by repeat (first | (with_reducible first | exact HB.out | apply below_alloc | apply pw_below_drewN | apply below_drew1 | refine below_set ?_ GE549.out) | exact HB.out)) hb); clear BK549; clear HB; have HO553 := n0_; have BK549 := n1_; have HB := n2_; clear n0_ n1_ n2_; (try clear hb); (try clear hb2); (try clear hk); (try clear hi); (try clear ho0)) | ((with_reducible refine gate_dst (N := 21) rfl ?_); refine Kd.R_lit (Kd.int .i64) _ 2 ?hg (N := 21) ?hd (xs := ([] : List Int)) (inner := []) (ok := fun _ => True) (okp := fun _ => True) ?hr ?hp (fun _ hk => hk) trivial (Below.refl _ _) (Nat.le_refl _) (by simp) ?_; (case hd => rfl); (case hg => rfl); (case hr => first | (go_simp; done) | (go_simp; rfl)); (case hp => exact (Reps.none _ _)); intro v555 w12 ho13 hb hg_ hnew_; clear hg_ hnew_; (first | rw [← Ny554.out] at ho13 | (simp only [Int.reduceToNat] at ho13; rw [← Ny554.out] at ho13)); have n0_ := Aside0.mk (Kd.R_below (by (with_reducible repeat (first | apply Kd.R_alloc | apply Kd.R_drewN | apply Kd.R_drew)); exact HO553.out) hb); have n1_ := Aside0.mk (Kd.R_lower ho13 (below_size (by repeat (first | (with_reducible first | exact HB.out | apply below_alloc | apply pw_below_drewN | apply below_drew1 | refine below_set ?_ GE549.out) | exact HB.out)))); have n2_ := Aside0.mk (blk_below (g := gb549) (o := .cells #[.int .i64 a0_0, .int .i64 a0_1, .int .i64 a0_2, .int .i64 a0_3] 24 (0, 0)) (by (with_reducible repeat (first | refine blk_drewN ?_ _ | refine blk_drew ?_ | refine blk_alloc ?_ _)); exact BK549.out) hb); have n3_ := Aside0.mk (below_step (by repeat (first | (with_reducible first | exact HB.out | apply below_alloc | apply pw_below_drewN | apply below_drew1 | refine below_set ?_ GE549.out) | exact HB.out)) hb); clear HO553; clear BK549; clear HB; have HO553 := n0_; have HO556 := n1_; have BK549 := n2_; have HB := n3_; clear n0_ n1_ n2_ n3_; clear hb ho13))
    go_loopg [2, 10] k (fun kq v2 v10 w' => ∃ (x2_1 : Int) (x9_1 : List Int) (x10_1 : List Int) (x550000_1 : Int) (x550001_1 : Int) (x550002_1 : Int) (x550003_1 : Int), v2 = .int .i64 x2_1 ∧ Aside0 (spec_PlayField.l0 kq a1 x2_1 x9_1 x10_1 x550000_1 x550001_1 x550002_1 x550003_1 = some (r1, r2)) ∧ Aside0 (kq ≤ k) ∧ Aside0 (Kd.R (Kd.int .i8) 86 w' w.heap.size (fun _ => True) v552 x9_1) ∧ Aside0 (Kd.R (Kd.int .i64) 2 w' w.heap.size (fun _ => True) v10 x10_1) ∧ Aside0 (w'.heap[gb549]? = some (.cells #[.int .i64 x550000_1, .int .i64 x550001_1, .int .i64 x550002_1, .int .i64 x550003_1] 24 (0, 0))) ∧ Aside0 (Below w.heap.size w w'))
    case atStart => exact ⟨(a2), (t551), (y554), (a0_0), (a0_1), (a0_2), (a0_3), (by first | rfl | (simp; done) | (simp [*]; done)), H', ⟨Nat.le_refl _⟩, ⟨by (with_reducible repeat (first | apply Kd.R_alloc | apply Kd.R_drewN | apply Kd.R_drew)); exact HO553.out⟩, ⟨by (with_reducible repeat (first | apply Kd.R_alloc | apply Kd.R_drewN | apply Kd.R_drew)); exact HO556.out⟩, ⟨by (with_reducible repeat (first | refine blk_drewN ?_ _ | refine blk_drew ?_ | refine blk_alloc ?_ _)); exact BK549.out⟩, ⟨by repeat (first | (with_reducible first | exact HB.out | apply below_alloc | apply pw_below_drewN | apply below_drew1 | refine below_set ?_ GE549.out) | exact HB.out)⟩⟩
    case round =>
      clear H'
      try clear p2
      try clear c3
      try clear c5
      try clear c5b0
      try clear c5b1
      try clear hcz10_0
      try clear hcz10_1
      try clear hcz10_2
      try clear hcz10_3
      try clear hcz8_0
      try clear hcz8_1
      try clear hcz8_2
      try clear hcz8_3
      try clear hfz10_0
      try clear hfz10_1
      try clear hfz10_2
      try clear hfz10_3
      try clear hfz8_0
      try clear hfz8_1
      try clear hfz8_2
      try clear hfz8_3
      obtain ⟨x2_1, x9_1, x10_1, x550000_1, x550001_1, x550002_1, x550003_1, rfl, HA, HK1, HO_9, HO_10, BK549, HB⟩ := hrel
      cases gk with
      | zero => exact absurd HA.out (by simp [spec_PlayField.l0])
      | succ k1 =>
        have H := HA.out
        clear HA
        simp only [spec_PlayField.l0] at H
        replace H := Option.bind_eq_some_iff.mp H
        obtain ⟨⟨t557, t560⟩, A140, H⟩ := H
        replace H : (if (t557.length : Int) = 0 then ((spec_l05Points.f k1 x550000_1 x550001_1 x550002_1 x550003_1 a1 x2_1).bind fun t561 => (if (t561.length : Int) = 0 then (some (x10_1, 0)) else (if 0 < (t561.length : Int) then (if x10_1.length < 17592186044416 then ((spec_l05Move.f x550000_1 x550001_1 x550002_1 x550003_1 x2_1 (rd t561 0)).bind fun bt569 => (spec_PlayField.l0 k1 a1 (wrap64 (1 - x2_1)) t560 (x10_1 ++ [rd t561 0]) bt569.1 bt569.2.1 bt569.2.2.1 bt569.2.2.2)) else (none)) else (none)))) else (if 0 < (t557.length : Int) then (if x10_1.length < 17592186044416 then ((spec_l05Move.f x550000_1 x550001_1 x550002_1 x550003_1 x2_1 (rd t557 0)).bind fun bt578 => (spec_PlayField.l0 k1 a1 (wrap64 (1 - x2_1)) t560 (x10_1 ++ [rd t557 0]) bt578.1 bt578.2.1 bt578.2.2.1 bt578.2.2.2)) else (none)) else (none))) = some (r1, r2) := H
        have A14 := Aside0.mk A140
        clear A140
        by_cases c15 : (t557.length : Int) = 0
        · rw [if_pos c15] at H
          have c15b0 : ((t557.length : Int) == 0) = true := beq_iff_eq.mpr c15
          have c15b1 : ((t557.length : Int) != 0) = false := bne_eq_false_iff_eq.mpr c15
          clear c15
          replace H := Option.bind_eq_some_iff.mp H
          obtain ⟨t561, A160, H⟩ := H
          replace H : (if (t561.length : Int) = 0 then (some (x10_1, 0)) else (if 0 < (t561.length : Int) then (if x10_1.length < 17592186044416 then ((spec_l05Move.f x550000_1 x550001_1 x550002_1 x550003_1 x2_1 (rd t561 0)).bind fun bt569 => (spec_PlayField.l0 k1 a1 (wrap64 (1 - x2_1)) t560 (x10_1 ++ [rd t561 0]) bt569.1 bt569.2.1 bt569.2.2.1 bt569.2.2.2)) else (none)) else (none))) = some (r1, r2) := H
          have A16 := Aside0.mk A160
          clear A160
          by_cases c17 : (t561.length : Int) = 0
          · rw [if_pos c17] at H
            have c17b0 : ((t561.length : Int) == 0) = true := beq_iff_eq.mpr c17
            have c17b1 : ((t561.length : Int) != 0) = false := bne_eq_false_iff_eq.mpr c17
            clear c17
            simp only [Option.some.injEq, Prod.mk.injEq] at H
            obtain ⟨rfl, rfl⟩ := H
            have hcz18_0 : wr.cell? ⟨gb549, 0, none⟩ = some (.int .i64 x550000_1) := (blk_cell BK549.out 0).trans rfl
            have hcz18_1 : wr.cell? ⟨gb549, 1, none⟩ = some (.int .i64 x550001_1) := (blk_cell BK549.out 1).trans rfl
            have hcz18_2 : wr.cell? ⟨gb549, 2, none⟩ = some (.int .i64 x550002_1) := (blk_cell BK549.out 2).trans rfl
            have hcz18_3 : wr.cell? ⟨gb549, 3, none⟩ = some (.int .i64 x550003_1) := (blk_cell BK549.out 3).trans rfl
            have hfz18_0 := blk_frozen BK549.out 0
            have hfz18_1 := blk_frozen BK549.out 1
            have hfz18_2 := blk_frozen BK549.out 2
            have hfz18_3 := blk_frozen BK549.out 3
            obtain ⟨Ao19, co19, eo19⟩ := Kd.R_slice HO_9.out
            subst eo19
            go_wp2_with (first | ((with_reducible refine gate_callee (f := 57) rfl ?_); refine goesL_ (some 26) rfl rfl Try.func57 (by kernel_rfl) rfl #[.agg #[.int .i64 x550000_1, .int .i64 x550001_1, .int .i64 x550002_1, .int .i64 x550003_1], .int .i64 a1, .int .i64 x2_1, .slice Ao19 x9_1.length co19] rfl (by (try simp only [List.map_toArray, List.map_cons, List.map_nil]); first | done | rfl | (simp only [List.length_drop, List.length_take]; rfl)) ?_; (with_reducible refine (spec_l05Best.calls k1 x550000_1 x550001_1 x550002_1 x550003_1 a1 x2_1 (fun k_ => some k_ = (.slice Ao19 x9_1.length co19 : Value).ownBlock) (.slice Ao19 x9_1.length co19) x9_1 t557 t560 w _ ?side1 ?side2 A14.out).mono ?_); (case side1 => repeat (first | (with_reducible first | exact HB.out | apply below_alloc | apply pw_below_drewN | apply below_drew1 | refine below_set ?_ GE549.out) | exact HB.out)); (case side2 => exact Kd.R_tight rfl HO_9.out); rintro e w20 ⟨v558, rfl, ho0, hy0, hb, hkp⟩; refine ⟨_, rfl, ?_⟩; have n0_ := Aside0.mk (Kd.R_reok rfl hy0 (fun k_ e_ => HO_9.out.1 k_ e_)); have n1_ := Aside0.mk (Kd.R_mono (ok' := fun k_ => some k_ ≠ (v558 : Value).ownBlock) (Kd.R_keptB ((Kd.R_apart' HO_10.out (Kd.R_typed HO_9.out) (by decide))) hkp (fun k_ hk_ hs_ => (hk_.2) hs_)) (fun k_ hk_ => fun e_ => Or.elim (ho0.1 k_ e_.symm) (fun hs_ => hk_.2.1 hs_) (fun hn_ => Nat.not_le.2 hk_.2.2 hn_))); have n2_ := Aside0.mk (blk_kept (by (with_reducible repeat (first | refine blk_drewN ?_ _ | refine blk_drew ?_ | refine blk_alloc ?_ _)); exact BK549.out) hkp (fun hs_ => (fun e_ => (Kd.R_ne HO_9.out BK549.out (by decide)) e_) hs_)); have n3_ := Aside0.mk (Kd.R_mono (ok' := fun k_ => some k_ ≠ (u10 : Value).ownBlock) ho0 (fun k_ hk_ => Or.elim hk_ (fun hs_ => fun e_ => ((((Kd.R_apart' HO_10.out (Kd.R_typed HO_9.out) (by decide))).1 k_ e_.symm).2) hs_) (fun hn_ => (Kd.fresh' (Kd.R_lt (by (with_reducible repeat (first | apply Kd.R_alloc | apply Kd.R_drewN | apply Kd.R_drew)); exact HO_10.out)) k_ hn_)))); have n4_ := Aside0.mk (hb); clear HO_9; clear HO_10; clear BK549; clear HB; have HO_9 := n0_; have HO_10 := n1_; have BK549 := n2_; have HO559 := n3_; have HB := n4_; clear n0_ n1_ n2_ n3_ n4_; (try clear hb); (try clear hkp); (try clear ho0); (try clear hy0); obtain ⟨Ao21, co21, eo21⟩ := Kd.R_slice HO559.out; subst eo21; have hcz22_0 : w20.cell? ⟨gb549, 0, none⟩ = some (.int .i64 x550000_1) := (blk_cell BK549.out 0).trans rfl; have hcz22_1 : w20.cell? ⟨gb549, 1, none⟩ = some (.int .i64 x550001_1) := (blk_cell BK549.out 1).trans rfl; have hcz22_2 : w20.cell? ⟨gb549, 2, none⟩ = some (.int .i64 x550002_1) := (blk_cell BK549.out 2).trans rfl; have hcz22_3 : w20.cell? ⟨gb549, 3, none⟩ = some (.int .i64 x550003_1) := (blk_cell BK549.out 3).trans rfl; have hfz22_0 := blk_frozen BK549.out 0; have hfz22_1 := blk_frozen BK549.out 1; have hfz22_2 := blk_frozen BK549.out 2; have hfz22_3 := blk_frozen BK549.out 3) | ((with_reducible refine gate_callee (f := 39) rfl ?_); refine goesL_ (some 33) rfl rfl Try.func39 (by kernel_rfl) rfl #[.agg #[.int .i64 x550000_1, .int .i64 x550001_1, .int .i64 x550002_1, .int .i64 x550003_1], .int .i64 a1, .int .i64 x2_1] rfl (by (try simp only [List.map_toArray, List.map_cons, List.map_nil]); first | done | rfl | (simp only [List.length_drop, List.length_take]; rfl)) ?_; (with_reducible refine (spec_l05Points.calls k1 x550000_1 x550001_1 x550002_1 x550003_1 a1 x2_1 t561 _ A16.out).mono ?_); rintro e w23 ⟨v562, rfl, ho0, hb⟩; refine ⟨_, rfl, ?_⟩; have n0_ := Aside0.mk (Kd.R_below (by (with_reducible repeat (first | apply Kd.R_alloc | apply Kd.R_drewN | apply Kd.R_drew)); exact HO_9.out) hb); have n1_ := Aside0.mk (Kd.R_elder' (by (with_reducible repeat (first | apply Kd.R_alloc | apply Kd.R_drewN | apply Kd.R_drew)); exact HO_10.out) (Kd.R_base ho0) hb); have n2_ := Aside0.mk (Kd.R_elder' (by (with_reducible repeat (first | apply Kd.R_alloc | apply Kd.R_drewN | apply Kd.R_drew)); exact HO559.out) (Kd.R_base ho0) hb); have n3_ := Aside0.mk (Kd.R_lower (Kd.R_new' (Kd.R_new' ho0 (Kd.R_lt (by (with_reducible repeat (first | apply Kd.R_alloc | apply Kd.R_drewN | apply Kd.R_drew)); exact HO_10.out))) (Kd.R_lt (by (with_reducible repeat (first | apply Kd.R_alloc | apply Kd.R_drewN | apply Kd.R_drew)); exact HO559.out))) (below_size (by repeat (first | (with_reducible first | exact HB.out | apply below_alloc | apply pw_below_drewN | apply below_drew1 | refine below_set ?_ GE549.out) | exact HB.out)))); have n4_ := Aside0.mk (blk_below (g := gb549) (o := .cells #[.int .i64 x550000_1, .int .i64 x550001_1, .int .i64 x550002_1, .int .i64 x550003_1] 24 (0, 0)) (by (with_reducible repeat (first | refine blk_drewN ?_ _ | refine blk_drew ?_ | refine blk_alloc ?_ _)); exact BK549.out) hb); have n5_ := Aside0.mk (below_step (by repeat (first | (with_reducible first | exact HB.out | apply below_alloc | apply pw_below_drewN | apply below_drew1 | refine below_set ?_ GE549.out) | exact HB.out)) hb); clear HO_9; clear HO_10; clear HO559; clear BK549; clear HB; have HO_9 := n0_; have HO_10 := n1_; have HO559 := n2_; have HO563 := n3_; have BK549 := n4_; have HB := n5_; clear n0_ n1_ n2_ n3_ n4_ n5_; (try clear hb); (try clear hb2); (try clear hk); (try clear hi); (try clear ho0); obtain ⟨Ao24, co24, eo24⟩ := Kd.R_slice HO563.out; subst eo24))
            go_ret2
            exact ⟨_, by first | rfl | (simp [errW_none, errW_some] <;> rfl) | (simp [*, errW_none, errW_some] <;> rfl), by (with_reducible repeat (first | apply Kd.R_alloc | apply Kd.R_drewN | apply Kd.R_drew)); exact Kd.R_mono HO_10.out (fun _ hk => trivial), by repeat (first | (with_reducible first | exact HB.out | apply below_alloc | apply pw_below_drewN | apply below_drew1 | refine below_set ?_ GE549.out) | exact HB.out)⟩
          · rw [if_neg c17] at H
            have c17b0 : ((t561.length : Int) == 0) = false := beq_eq_false_iff_ne.mpr c17
            have c17b1 : ((t561.length : Int) != 0) = true := bne_iff_ne.mpr c17
            have c17b2 : ¬ (t561 = []) := fun h_ => c17 (by rw [h_]; rfl)
            by_cases c25 : 0 < (t561.length : Int)
            · rw [if_pos c25] at H
              have c25b0 : decide (0 < (t561.length : Int)) = true := decide_eq_true c25
              have c25b1 : decide (0 < t561.length) = true := decide_eq_true (by omega)
              clear c25
              by_cases c26 : x10_1.length < 17592186044416
              · rw [if_pos c26] at H
                have LMc26 := Aside0.mk c26
                clear c26
                obtain ⟨y565, hy565⟩ : ∃ y_ : List Int, y_ = (x10_1 ++ [rd t561 0]) := ⟨_, rfl⟩
                replace H : ((spec_l05Move.f x550000_1 x550001_1 x550002_1 x550003_1 x2_1 (rd t561 0)).bind fun bt569 => (spec_PlayField.l0 k1 a1 (wrap64 (1 - x2_1)) t560 y565 bt569.1 bt569.2.1 bt569.2.2.1 bt569.2.2.2)) = some (r1, r2) := by first | (rw [hy565]; with_reducible exact H) | (have H2_ := (Option.bind_some _ _).symm.trans H; rw [hy565]; with_reducible exact H2_) | (have H2_ := (Option.bind_some _ _).symm.trans H; with_reducible exact H2_) | with_reducible exact H | (rw [hy565]; exact H) | exact H
                have Ny565 := Aside0.mk hy565
                clear hy565
                replace H := Option.bind_eq_some_iff.mp H
                obtain ⟨⟨t569, t570, t571, t572⟩, A270, H⟩ := H
                replace H : (spec_PlayField.l0 k1 a1 (wrap64 (1 - x2_1)) t560 y565 t569 t570 t571 t572) = some (r1, r2) := H
                have A27 := Aside0.mk A270
                clear A270
                have H' := Aside0.mk H
                clear H
                have hcz28_0 : wr.cell? ⟨gb549, 0, none⟩ = some (.int .i64 x550000_1) := (blk_cell BK549.out 0).trans rfl
                have hcz28_1 : wr.cell? ⟨gb549, 1, none⟩ = some (.int .i64 x550001_1) := (blk_cell BK549.out 1).trans rfl
                have hcz28_2 : wr.cell? ⟨gb549, 2, none⟩ = some (.int .i64 x550002_1) := (blk_cell BK549.out 2).trans rfl
                have hcz28_3 : wr.cell? ⟨gb549, 3, none⟩ = some (.int .i64 x550003_1) := (blk_cell BK549.out 3).trans rfl
                have hfz28_0 := blk_frozen BK549.out 0
                have hfz28_1 := blk_frozen BK549.out 1
                have hfz28_2 := blk_frozen BK549.out 2
                have hfz28_3 := blk_frozen BK549.out 3
                obtain ⟨Ao29, co29, eo29⟩ := Kd.R_slice HO_9.out
                subst eo29
                try go_wp2_with (first | ((with_reducible refine gate_callee (f := 57) rfl ?_); refine goesL_ (some 26) rfl rfl Try.func57 (by kernel_rfl) rfl #[.agg #[.int .i64 x550000_1, .int .i64 x550001_1, .int .i64 x550002_1, .int .i64 x550003_1], .int .i64 a1, .int .i64 x2_1, .slice Ao29 x9_1.length co29] rfl (by (try simp only [List.map_toArray, List.map_cons, List.map_nil]); first | done | rfl | (simp only [List.length_drop, List.length_take]; rfl)) ?_; (with_reducible refine (spec_l05Best.calls k1 x550000_1 x550001_1 x550002_1 x550003_1 a1 x2_1 (fun k_ => some k_ = (.slice Ao29 x9_1.length co29 : Value).ownBlock) (.slice Ao29 x9_1.length co29) x9_1 t557 t560 w _ ?side1 ?side2 A14.out).mono ?_); (case side1 => repeat (first | (with_reducible first | exact HB.out | apply below_alloc | apply pw_below_drewN | apply below_drew1 | refine below_set ?_ GE549.out) | exact HB.out)); (case side2 => exact Kd.R_tight rfl HO_9.out); rintro e w30 ⟨v558, rfl, ho0, hy0, hb, hkp⟩; refine ⟨_, rfl, ?_⟩; have n0_ := Aside0.mk (Kd.R_reok rfl hy0 (fun k_ e_ => HO_9.out.1 k_ e_)); have n1_ := Aside0.mk (Kd.R_mono (ok' := fun k_ => some k_ ≠ (v558 : Value).ownBlock) (Kd.R_keptB ((Kd.R_apart' HO_10.out (Kd.R_typed HO_9.out) (by decide))) hkp (fun k_ hk_ hs_ => (hk_.2) hs_)) (fun k_ hk_ => fun e_ => Or.elim (ho0.1 k_ e_.symm) (fun hs_ => hk_.2.1 hs_) (fun hn_ => Nat.not_le.2 hk_.2.2 hn_))); have n2_ := Aside0.mk (blk_kept (by (with_reducible repeat (first | refine blk_drewN ?_ _ | refine blk_drew ?_ | refine blk_alloc ?_ _)); exact BK549.out) hkp (fun hs_ => (fun e_ => (Kd.R_ne HO_9.out BK549.out (by decide)) e_) hs_)); have n3_ := Aside0.mk (Kd.R_mono (ok' := fun k_ => some k_ ≠ (u10 : Value).ownBlock) ho0 (fun k_ hk_ => Or.elim hk_ (fun hs_ => fun e_ => ((((Kd.R_apart' HO_10.out (Kd.R_typed HO_9.out) (by decide))).1 k_ e_.symm).2) hs_) (fun hn_ => (Kd.fresh' (Kd.R_lt (by (with_reducible repeat (first | apply Kd.R_alloc | apply Kd.R_drewN | apply Kd.R_drew)); exact HO_10.out)) k_ hn_)))); have n4_ := Aside0.mk (hb); clear HO_9; clear HO_10; clear BK549; clear HB; have HO_9 := n0_; have HO_10 := n1_; have BK549 := n2_; have HO559 := n3_; have HB := n4_; clear n0_ n1_ n2_ n3_ n4_; (try clear hb); (try clear hkp); (try clear ho0); (try clear hy0); obtain ⟨Ao31, co31, eo31⟩ := Kd.R_slice HO559.out; subst eo31; have hcz32_0 : w30.cell? ⟨gb549, 0, none⟩ = some (.int .i64 x550000_1) := (blk_cell BK549.out 0).trans rfl; have hcz32_1 : w30.cell? ⟨gb549, 1, none⟩ = some (.int .i64 x550001_1) := (blk_cell BK549.out 1).trans rfl; have hcz32_2 : w30.cell? ⟨gb549, 2, none⟩ = some (.int .i64 x550002_1) := (blk_cell BK549.out 2).trans rfl; have hcz32_3 : w30.cell? ⟨gb549, 3, none⟩ = some (.int .i64 x550003_1) := (blk_cell BK549.out 3).trans rfl; have hfz32_0 := blk_frozen BK549.out 0; have hfz32_1 := blk_frozen BK549.out 1; have hfz32_2 := blk_frozen BK549.out 2; have hfz32_3 := blk_frozen BK549.out 3) | ((with_reducible refine gate_callee (f := 39) rfl ?_); refine goesL_ (some 33) rfl rfl Try.func39 (by kernel_rfl) rfl #[.agg #[.int .i64 x550000_1, .int .i64 x550001_1, .int .i64 x550002_1, .int .i64 x550003_1], .int .i64 a1, .int .i64 x2_1] rfl (by (try simp only [List.map_toArray, List.map_cons, List.map_nil]); first | done | rfl | (simp only [List.length_drop, List.length_take]; rfl)) ?_; (with_reducible refine (spec_l05Points.calls k1 x550000_1 x550001_1 x550002_1 x550003_1 a1 x2_1 t561 _ A16.out).mono ?_); rintro e w33 ⟨v562, rfl, ho0, hb⟩; refine ⟨_, rfl, ?_⟩; have n0_ := Aside0.mk (Kd.R_below (by (with_reducible repeat (first | apply Kd.R_alloc | apply Kd.R_drewN | apply Kd.R_drew)); exact HO_9.out) hb); have n1_ := Aside0.mk (Kd.R_elder' (by (with_reducible repeat (first | apply Kd.R_alloc | apply Kd.R_drewN | apply Kd.R_drew)); exact HO_10.out) (Kd.R_base ho0) hb); have n2_ := Aside0.mk (Kd.R_elder' (by (with_reducible repeat (first | apply Kd.R_alloc | apply Kd.R_drewN | apply Kd.R_drew)); exact HO559.out) (Kd.R_base ho0) hb); have n3_ := Aside0.mk (Kd.R_lower (Kd.R_new' (Kd.R_new' ho0 (Kd.R_lt (by (with_reducible repeat (first | apply Kd.R_alloc | apply Kd.R_drewN | apply Kd.R_drew)); exact HO_10.out))) (Kd.R_lt (by (with_reducible repeat (first | apply Kd.R_alloc | apply Kd.R_drewN | apply Kd.R_drew)); exact HO559.out))) (below_size (by repeat (first | (with_reducible first | exact HB.out | apply below_alloc | apply pw_below_drewN | apply below_drew1 | refine below_set ?_ GE549.out) | exact HB.out)))); have n4_ := Aside0.mk (blk_below (g := gb549) (o := .cells #[.int .i64 x550000_1, .int .i64 x550001_1, .int .i64 x550002_1, .int .i64 x550003_1] 24 (0, 0)) (by (with_reducible repeat (first | refine blk_drewN ?_ _ | refine blk_drew ?_ | refine blk_alloc ?_ _)); exact BK549.out) hb); have n5_ := Aside0.mk (below_step (by repeat (first | (with_reducible first | exact HB.out | apply below_alloc | apply pw_below_drewN | apply below_drew1 | refine below_set ?_ GE549.out) | exact HB.out)) hb); clear HO_9; clear HO_10; clear HO559; clear BK549; clear HB; have HO_9 := n0_; have HO_10 := n1_; have HO559 := n2_; have HO563 := n3_; have BK549 := n4_; have HB := n5_; clear n0_ n1_ n2_ n3_ n4_ n5_; (try clear hb); (try clear hb2); (try clear hk); (try clear hi); (try clear ho0); obtain ⟨Ao34, co34, eo34⟩ := Kd.R_slice HO563.out; subst eo34; have p564 : 0 ≤ (0 : Int) := (by omega); have q564 : 0 < (t561.length : Int) := of_decide_eq_true (by first | (with_reducible assumption) | assumption); obtain ⟨ad564, e564, hx564_0⟩ := Kd.at_int (Kd.R_reads' HO563.out).2.2 0 p564 q564; cases e564; have qi564 : (0 < t561.length) = True := eq_true (by omega); (try rw [show ((0 : Int)).toNat = 0 from rfl] at hx564_0); (try rw [Addr.add_zero'] at hx564_0); replace p564 := eq_true p564; replace q564 := eq_true q564) | ((with_reducible refine gate_builtin (b := .append) (xs := #[.tmp 38, .tmp 42]) rfl ?_); at_builtin; refine Kd.R_append (Kd.int .i64) (w0 := w) w.heap.size rfl (.tmp 38) (.tmp 42) 30 2 (.int .i64 0) 8 rfl Try.underlying30 info2 rfl (by decide) (by omega) u10 x10_1 (rd t561 0) [.int .i64 (rd t561 0)] (fun k_ => some k_ ≠ (.slice Ao31 t557.length co31 : Value).ownBlock ∧ some k_ ≠ (.slice (some ad564) t561.length co34 : Value).ownBlock) (fun _ => False) rfl rfl ?aP (fun _ hk => hk.elim) ?aF ?aO ?aB ?aS ?aL ?_; (case aP => exact rfl); (case aB => exact (by repeat (first | (with_reducible first | exact HB.out | apply below_alloc | apply pw_below_drewN | apply below_drew1 | refine below_set ?_ GE549.out) | exact HB.out))); (case aF => exact (fun k_ hk => ⟨Kd.fresh' (Kd.R_lt (by (with_reducible repeat (first | apply Kd.R_alloc | apply Kd.R_drewN | apply Kd.R_drew)); exact HO559.out)) k_ hk, Kd.fresh' (Kd.R_lt (by (with_reducible repeat (first | apply Kd.R_alloc | apply Kd.R_drewN | apply Kd.R_drew)); exact HO563.out)) k_ hk⟩)); (case aO => exact (by (with_reducible repeat (first | apply Kd.R_alloc | apply Kd.R_drewN | apply Kd.R_drew)); exact HO_10.out)); (case aS => exact (below_size (by repeat (first | (with_reducible first | exact HB.out | apply below_alloc | apply pw_below_drewN | apply below_drew1 | refine below_set ?_ GE549.out) | exact HB.out)))); (case aL => have := LMc26.out; omega); intro v566 w35 ho hb hg hat; rw [← Ny565.out] at ho; have n0_ := Aside0.mk (Kd.R_over' (by (with_reducible repeat (first | apply Kd.R_alloc | apply Kd.R_drewN | apply Kd.R_drew)); exact HO_9.out) (Kd.R_typed (by (with_reducible repeat (first | apply Kd.R_alloc | apply Kd.R_drewN | apply Kd.R_drew)); exact HO_10.out)) (by decide) hg); have n1_ := Aside0.mk (blk_grown (g := gb549) (o := .cells #[.int .i64 x550000_1, .int .i64 x550001_1, .int .i64 x550002_1, .int .i64 x550003_1] 24 (0, 0)) (by (with_reducible repeat (first | refine blk_drewN ?_ _ | refine blk_drew ?_ | refine blk_alloc ?_ _)); exact BK549.out) hg (Kd.R_ne HO_10.out BK549.out (by decide))); have n2_ := Aside0.mk (Kd.R_after (ok := (fun k_ => some k_ ≠ (.slice (some ad564) t561.length co34 : Value).ownBlock)) (by (with_reducible repeat (first | apply Kd.R_alloc | apply Kd.R_drewN | apply Kd.R_drew)); exact Kd.R_mono HO559.out (fun _ hk => ⟨hk.2, hk.1⟩)) hg hat); have n3_ := Aside0.mk (Kd.R_after (ok := (fun k_ => some k_ ≠ (.slice Ao31 t557.length co31 : Value).ownBlock)) (by (with_reducible repeat (first | apply Kd.R_alloc | apply Kd.R_drewN | apply Kd.R_drew)); exact Kd.R_mono HO563.out (fun _ hk => ⟨hk.2, hk.1.2⟩)) hg hat); have n4_ := Aside0.mk (hb); have n5_ := Aside0.mk (ho); clear HO_9; clear BK549; clear HO559; clear HO563; clear HB; clear HO_10; have HO_9 := n0_; have BK549 := n1_; have HO559 := n2_; have HO563 := n3_; have HB := n4_; have HO567 := n5_; clear n0_ n1_ n2_ n3_ n4_ n5_; clear ho hb hg hat))
                have n0_ := Aside0.mk (Kd.R_drew HO_9.out)
                have n1_ := Aside0.mk (Kd.R_drew HO559.out)
                have n2_ := Aside0.mk (Kd.R_drew HO563.out)
                have n3_ := Aside0.mk (Kd.R_drew HO567.out)
                have n4_ := Aside0.mk (blk_drew BK549.out)
                have n5_ := Aside0.mk (below_drew1 HB.out)
                clear HO_9
                clear HO559
                clear HO563
                clear HO567
                clear BK549
                clear HB
                have HO_9 := n0_
                have HO559 := n1_
                have HO563 := n2_
                have HO567 := n3_
                have BK549 := n4_
                have HB := n5_
                clear n0_ n1_ n2_ n3_ n4_ n5_
                have p568 : 0 ≤ (0 : Int) := (by omega)
                have q568 : 0 < (t561.length : Int) := of_decide_eq_true (by first | (with_reducible assumption) | assumption)
                obtain ⟨ad568, e568, hx568_0⟩ := Kd.at_int (Kd.R_reads' HO563.out).2.2 0 p568 q568
                obtain rfl : ad564 = ad568 := (by injection e568)
                have qi568 : (0 < t561.length) = True := eq_true (by omega)
                (try rw [show ((0 : Int)).toNat = 0 from rfl] at hx568_0)
                (try rw [Addr.add_zero'] at hx568_0)
                replace p568 := eq_true p568
                replace q568 := eq_true q568
                refine start_ (n := 7) (S := fun w' => w'.cell? ⟨gb549, 0, none⟩ = some (.int .i64 x550000_1) ∧ w'.cell? ⟨gb549, 1, none⟩ = some (.int .i64 x550001_1) ∧ w'.cell? ⟨gb549, 2, none⟩ = some (.int .i64 x550002_1) ∧ w'.cell? ⟨gb549, 3, none⟩ = some (.int .i64 x550003_1) ∧ w'.cell? ad564 = some (.int .i64 (rd t561 0))) (ds := [6]) #[false, false, false, false, false, false, false] (by kernel_rfl) rfl rfl ⟨(blk_cell BK549.out 0).trans rfl, (blk_cell BK549.out 1).trans rfl, (blk_cell BK549.out 2).trans rfl, (blk_cell BK549.out 3).trans rfl, hx568_0⟩ (fun hHeld => ?_)
                generalize w35.drew = w36 at HO_9 HO559 HO563 HO567 BK549 HB hx568_0 hHeld ⊢
                refine pure_ (i := 1) (N := some 45) (v := ?_) (a' := ?_) #[false, true, false, false, false, false, false] rfl rfl (by kernel_rfl) (fun _ _ _ h => h) (Or.inl ⟨by rfl, ?_⟩) ?_ ?_
                rotate_left
                · intro w'
                  go_simp
                  with_reducible rfl
                rotate_left
                · simp only [Act.put, List.setIfInBounds_toArray, List.set_cons_zero, List.set_cons_succ, i64_w, i32_w]
                  rfl
                refine pure_ (i := 2) (N := some 46) (v := ?_) (a' := ?_) #[false, true, true, false, false, false, false] rfl rfl (by kernel_rfl) (fun _ _ _ h => h) (Or.inl ⟨by rfl, ?_⟩) ?_ ?_
                rotate_left
                · intro w'
                  go_simp
                  with_reducible rfl
                rotate_left
                · simp only [Act.put, List.setIfInBounds_toArray, List.set_cons_zero, List.set_cons_succ, i64_w, i32_w]
                  rfl
                refine pure_ (i := 3) (N := some 47) (v := ?_) (a' := ?_) #[false, true, true, true, false, false, false] rfl rfl (by kernel_rfl) (fun _ _ _ h => h) (Or.inl ⟨by rfl, ?_⟩) ?_ ?_
                rotate_left
                · intro w'
                  go_simp
                  with_reducible rfl
                rotate_left
                · simp only [Act.put, List.setIfInBounds_toArray, List.set_cons_zero, List.set_cons_succ, i64_w, i32_w]
                  rfl
                refine take_ (i := 0) (N := some 44) (v := ?_) (a' := ?_) #[true, true, true, true, false, false, false] rfl rfl (by kernel_rfl) (fun _ _ _ h => h) (Or.inl ⟨by rfl, ?_⟩) hHeld ?_ ?_
                rotate_left
                · rintro w' ⟨s0, s1, s2, s3, s4⟩
                  go_simp
                  with_reducible rfl
                rotate_left
                · simp only [Act.put, List.setIfInBounds_toArray, List.set_cons_zero, List.set_cons_succ, i64_w, i32_w]
                  rfl
                refine take_ (i := 4) (N := some 48) (v := ?_) (a' := ?_) #[true, true, true, true, true, false, false] rfl rfl (by kernel_rfl) (fun _ _ _ h => h) (Or.inl ⟨by rfl, ?_⟩) hHeld ?_ ?_
                rotate_left
                · rintro w' ⟨s0, s1, s2, s3, s4⟩
                  go_simp
                  with_reducible rfl
                rotate_left
                · simp only [Act.put, List.setIfInBounds_toArray, List.set_cons_zero, List.set_cons_succ, i64_w, i32_w]
                  rfl
                refine one_ (i := 5) (N := some 49) #[true, true, true, true, true, true, false] rfl rfl (by kernel_rfl) (by decide) (fun K hK => ?_)
                refine goes_ Try.func43 (by kernel_rfl) rfl #[.agg #[.int .i64 x550000_1, .int .i64 x550001_1, .int .i64 x550002_1, .int .i64 x550003_1], .int .i64 x2_1, .int .i64 (rd t561 0)] (by rfl) rfl rfl (by (try simp only [List.map_toArray, List.map_cons, List.map_nil]); first | done | rfl | (simp only [List.length_drop, List.length_take]; rfl)) ?_
                with_reducible refine (spec_l05Move.calls x550000_1 x550001_1 x550002_1 x550003_1 x2_1 (rd t561 0) t569 t570 t571 t572 _ A27.out).mono ?_
                rintro e w37 ⟨rfl, hb⟩
                have HS4_ := (hb.cell (World.block_lt_of_cell? _ _ (hHeld.2.2.2.2))).trans (hHeld.2.2.2.2)
                refine ⟨_, rfl, ?_⟩
                have n0_ := Aside0.mk (Kd.R_below (by (with_reducible repeat (first | apply Kd.R_alloc | apply Kd.R_drewN | apply Kd.R_drew)); exact HO_9.out) hb)
                have n1_ := Aside0.mk (Kd.R_below (by (with_reducible repeat (first | apply Kd.R_alloc | apply Kd.R_drewN | apply Kd.R_drew)); exact HO559.out) hb)
                have n2_ := Aside0.mk (Kd.R_below (by (with_reducible repeat (first | apply Kd.R_alloc | apply Kd.R_drewN | apply Kd.R_drew)); exact HO563.out) hb)
                have n3_ := Aside0.mk (Kd.R_below (by (with_reducible repeat (first | apply Kd.R_alloc | apply Kd.R_drewN | apply Kd.R_drew)); exact HO567.out) hb)
                have n4_ := Aside0.mk (blk_below (g := gb549) (o := .cells #[.int .i64 x550000_1, .int .i64 x550001_1, .int .i64 x550002_1, .int .i64 x550003_1] 24 (0, 0)) (by (with_reducible repeat (first | refine blk_drewN ?_ _ | refine blk_drew ?_ | refine blk_alloc ?_ _)); exact BK549.out) hb)
                have n5_ := Aside0.mk (below_step (by repeat (first | (with_reducible first | exact HB.out | apply below_alloc | apply pw_below_drewN | apply below_drew1 | refine below_set ?_ GE549.out) | exact HB.out)) hb)
                clear HO_9
                clear HO559
                clear HO563
                clear HO567
                clear BK549
                clear HB
                have HO_9 := n0_
                have HO559 := n1_
                have HO563 := n2_
                have HO567 := n3_
                have BK549 := n4_
                have HB := n5_
                clear n0_ n1_ n2_ n3_ n4_ n5_
                (try clear hb)
                (try clear hb2)
                (try clear hk)
                (try clear hi)
                refine hK.out _ _ ⟨(blk_cell BK549.out 0).trans rfl, (blk_cell BK549.out 1).trans rfl, (blk_cell BK549.out 2).trans rfl, (blk_cell BK549.out 3).trans rfl, HS4_⟩ (fun hHeld => ?_)
                clear hK K
                refine norm_ (a' := ?_) ?_ ?_
                rotate_left
                · show Act.put _ (some 49) _ = _
                  simp only [Act.put, List.setIfInBounds_toArray, List.set_cons_zero, List.set_cons_succ, i64_w, i32_w]
                  rfl
                refine last_ (i := 6) (N := none) #[true, true, true, true, true, true, true] rfl rfl (by kernel_rfl) (by decide) (fun K hK => ?_)
                have hs38 : w37.cell? ⟨gb549, 0, none⟩ = some (.int .i64 x550000_1) := (blk_cell BK549.out 0).trans rfl
                have hfs38 := blk_frozen BK549.out 0
                have hs39 : w37.cell? ⟨gb549, 1, none⟩ = some (.int .i64 x550001_1) := (blk_cell BK549.out 1).trans rfl
                have hfs39 := blk_frozen BK549.out 1
                have hs40 : w37.cell? ⟨gb549, 2, none⟩ = some (.int .i64 x550002_1) := (blk_cell BK549.out 2).trans rfl
                have hfs40 := blk_frozen BK549.out 2
                have hs41 : w37.cell? ⟨gb549, 3, none⟩ = some (.int .i64 x550003_1) := (blk_cell BK549.out 3).trans rfl
                have hfs41 := blk_frozen BK549.out 3
                refine skip_ (w1 := ?_) (by rfl) rfl ?_ ?_
                rotate_left
                · go_simp
                  rfl
                refine hK.out _ _ ?_
                clear hK K
                refine done_ (by kernel_rfl) ?_
                try go_wp2
                go_roundg k1
                case measure => have := HK1.out; omega
                case rel => exact ⟨(wrap64 (1 - x2_1)), (t560), (y565), (t569), (t570), (t571), (t572), (by first | rfl | (simp; done) | (simp [*]; done)), H', ⟨by have := HK1.out; omega⟩, ⟨by (with_reducible repeat (first | apply Kd.R_alloc | apply Kd.R_drewN | apply Kd.R_drew)); exact Kd.R_mono (Kd.R_far (p := ⟨gb549, 3, none⟩) (Kd.R_far (p := ⟨gb549, 2, none⟩) (Kd.R_far (p := ⟨gb549, 1, none⟩) (Kd.R_far (p := ⟨gb549, 0, none⟩) (Kd.R_types HO_9.out BK549.out (by decide)) (fun _ hk => hk.2) (.int .i64 t569)) (fun _ hk => hk.2) (.int .i64 t570)) (fun _ hk => hk.2) (.int .i64 t571)) (fun _ hk => hk.2) (.int .i64 t572)) (fun _ hk => trivial)⟩, ⟨by (with_reducible repeat (first | apply Kd.R_alloc | apply Kd.R_drewN | apply Kd.R_drew)); exact Kd.R_mono (Kd.R_far (p := ⟨gb549, 3, none⟩) (Kd.R_far (p := ⟨gb549, 2, none⟩) (Kd.R_far (p := ⟨gb549, 1, none⟩) (Kd.R_far (p := ⟨gb549, 0, none⟩) (Kd.R_types HO567.out BK549.out (by decide)) (fun _ hk => hk.2) (.int .i64 t569)) (fun _ hk => hk.2) (.int .i64 t570)) (fun _ hk => hk.2) (.int .i64 t571)) (fun _ hk => hk.2) (.int .i64 t572)) (fun _ hk => trivial)⟩, ⟨by (with_reducible repeat (first | refine blk_drewN ?_ _ | refine blk_drew ?_ | refine blk_alloc ?_ _)); refine blk_put (cs := #[.int .i64 t569, .int .i64 t570, .int .i64 t571, .int .i64 x550003_1]) ?_ 3 _ rfl; (with_reducible repeat (first | refine blk_drewN ?_ _ | refine blk_drew ?_ | refine blk_alloc ?_ _)); refine blk_put (cs := #[.int .i64 t569, .int .i64 t570, .int .i64 x550002_1, .int .i64 x550003_1]) ?_ 2 _ rfl; (with_reducible repeat (first | refine blk_drewN ?_ _ | refine blk_drew ?_ | refine blk_alloc ?_ _)); refine blk_put (cs := #[.int .i64 t569, .int .i64 x550001_1, .int .i64 x550002_1, .int .i64 x550003_1]) ?_ 1 _ rfl; (with_reducible repeat (first | refine blk_drewN ?_ _ | refine blk_drew ?_ | refine blk_alloc ?_ _)); refine blk_put (cs := #[.int .i64 x550000_1, .int .i64 x550001_1, .int .i64 x550002_1, .int .i64 x550003_1]) ?_ 0 _ rfl; (with_reducible repeat (first | refine blk_drewN ?_ _ | refine blk_drew ?_ | refine blk_alloc ?_ _)); exact BK549.out⟩, ⟨by repeat (first | (with_reducible first | exact HB.out | apply below_alloc | apply pw_below_drewN | apply below_drew1 | refine below_set ?_ GE549.out) | exact HB.out)⟩⟩
              · rw [if_neg c26] at H
                exact absurd H (by simp)
            · rw [if_neg c25] at H
              exact absurd H (by simp)
        · rw [if_neg c15] at H
          have c15b0 : ((t557.length : Int) == 0) = false := beq_eq_false_iff_ne.mpr c15
          have c15b1 : ((t557.length : Int) != 0) = true := bne_iff_ne.mpr c15
          have c15b2 : ¬ (t557 = []) := fun h_ => c15 (by rw [h_]; rfl)
          by_cases c42 : 0 < (t557.length : Int)
          · rw [if_pos c42] at H
            have c42b0 : decide (0 < (t557.length : Int)) = true := decide_eq_true c42
            have c42b1 : decide (0 < t557.length) = true := decide_eq_true (by omega)
            clear c42
            by_cases c43 : x10_1.length < 17592186044416
            · rw [if_pos c43] at H
              have LMc43 := Aside0.mk c43
              clear c43
              obtain ⟨y574, hy574⟩ : ∃ y_ : List Int, y_ = (x10_1 ++ [rd t557 0]) := ⟨_, rfl⟩
              replace H : ((spec_l05Move.f x550000_1 x550001_1 x550002_1 x550003_1 x2_1 (rd t557 0)).bind fun bt578 => (spec_PlayField.l0 k1 a1 (wrap64 (1 - x2_1)) t560 y574 bt578.1 bt578.2.1 bt578.2.2.1 bt578.2.2.2)) = some (r1, r2) := by first | (rw [hy574]; with_reducible exact H) | (have H2_ := (Option.bind_some _ _).symm.trans H; rw [hy574]; with_reducible exact H2_) | (have H2_ := (Option.bind_some _ _).symm.trans H; with_reducible exact H2_) | with_reducible exact H | (rw [hy574]; exact H) | exact H
              have Ny574 := Aside0.mk hy574
              clear hy574
              replace H := Option.bind_eq_some_iff.mp H
              obtain ⟨⟨t578, t579, t580, t581⟩, A440, H⟩ := H
              replace H : (spec_PlayField.l0 k1 a1 (wrap64 (1 - x2_1)) t560 y574 t578 t579 t580 t581) = some (r1, r2) := H
              have A44 := Aside0.mk A440
              clear A440
              have H' := Aside0.mk H
              clear H
              have hcz45_0 : wr.cell? ⟨gb549, 0, none⟩ = some (.int .i64 x550000_1) := (blk_cell BK549.out 0).trans rfl
              have hcz45_1 : wr.cell? ⟨gb549, 1, none⟩ = some (.int .i64 x550001_1) := (blk_cell BK549.out 1).trans rfl
              have hcz45_2 : wr.cell? ⟨gb549, 2, none⟩ = some (.int .i64 x550002_1) := (blk_cell BK549.out 2).trans rfl
              have hcz45_3 : wr.cell? ⟨gb549, 3, none⟩ = some (.int .i64 x550003_1) := (blk_cell BK549.out 3).trans rfl
              have hfz45_0 := blk_frozen BK549.out 0
              have hfz45_1 := blk_frozen BK549.out 1
              have hfz45_2 := blk_frozen BK549.out 2
              have hfz45_3 := blk_frozen BK549.out 3
              obtain ⟨Ao46, co46, eo46⟩ := Kd.R_slice HO_9.out
              subst eo46
              try go_wp2_with (first | ((with_reducible refine gate_callee (f := 57) rfl ?_); refine goesL_ (some 26) rfl rfl Try.func57 (by kernel_rfl) rfl #[.agg #[.int .i64 x550000_1, .int .i64 x550001_1, .int .i64 x550002_1, .int .i64 x550003_1], .int .i64 a1, .int .i64 x2_1, .slice Ao46 x9_1.length co46] rfl (by (try simp only [List.map_toArray, List.map_cons, List.map_nil]); first | done | rfl | (simp only [List.length_drop, List.length_take]; rfl)) ?_; (with_reducible refine (spec_l05Best.calls k1 x550000_1 x550001_1 x550002_1 x550003_1 a1 x2_1 (fun k_ => some k_ = (.slice Ao46 x9_1.length co46 : Value).ownBlock) (.slice Ao46 x9_1.length co46) x9_1 t557 t560 w _ ?side1 ?side2 A14.out).mono ?_); (case side1 => repeat (first | (with_reducible first | exact HB.out | apply below_alloc | apply pw_below_drewN | apply below_drew1 | refine below_set ?_ GE549.out) | exact HB.out)); (case side2 => exact Kd.R_tight rfl HO_9.out); rintro e w47 ⟨v558, rfl, ho0, hy0, hb, hkp⟩; refine ⟨_, rfl, ?_⟩; have n0_ := Aside0.mk (Kd.R_reok rfl hy0 (fun k_ e_ => HO_9.out.1 k_ e_)); have n1_ := Aside0.mk (Kd.R_mono (ok' := fun k_ => some k_ ≠ (v558 : Value).ownBlock) (Kd.R_keptB ((Kd.R_apart' HO_10.out (Kd.R_typed HO_9.out) (by decide))) hkp (fun k_ hk_ hs_ => (hk_.2) hs_)) (fun k_ hk_ => fun e_ => Or.elim (ho0.1 k_ e_.symm) (fun hs_ => hk_.2.1 hs_) (fun hn_ => Nat.not_le.2 hk_.2.2 hn_))); have n2_ := Aside0.mk (blk_kept (by (with_reducible repeat (first | refine blk_drewN ?_ _ | refine blk_drew ?_ | refine blk_alloc ?_ _)); exact BK549.out) hkp (fun hs_ => (fun e_ => (Kd.R_ne HO_9.out BK549.out (by decide)) e_) hs_)); have n3_ := Aside0.mk (Kd.R_mono (ok' := fun k_ => some k_ ≠ (u10 : Value).ownBlock) ho0 (fun k_ hk_ => Or.elim hk_ (fun hs_ => fun e_ => ((((Kd.R_apart' HO_10.out (Kd.R_typed HO_9.out) (by decide))).1 k_ e_.symm).2) hs_) (fun hn_ => (Kd.fresh' (Kd.R_lt (by (with_reducible repeat (first | apply Kd.R_alloc | apply Kd.R_drewN | apply Kd.R_drew)); exact HO_10.out)) k_ hn_)))); have n4_ := Aside0.mk (hb); clear HO_9; clear HO_10; clear BK549; clear HB; have HO_9 := n0_; have HO_10 := n1_; have BK549 := n2_; have HO559 := n3_; have HB := n4_; clear n0_ n1_ n2_ n3_ n4_; (try clear hb); (try clear hkp); (try clear ho0); (try clear hy0); obtain ⟨Ao48, co48, eo48⟩ := Kd.R_slice HO559.out; subst eo48; have p573 : 0 ≤ (0 : Int) := (by omega); have q573 : 0 < (t557.length : Int) := of_decide_eq_true (by first | (with_reducible assumption) | assumption); obtain ⟨ad573, e573, hx573_0⟩ := Kd.at_int (Kd.R_reads' HO559.out).2.2 0 p573 q573; cases e573; have qi573 : (0 < t557.length) = True := eq_true (by omega); (try rw [show ((0 : Int)).toNat = 0 from rfl] at hx573_0); (try rw [Addr.add_zero'] at hx573_0); replace p573 := eq_true p573; replace q573 := eq_true q573) | ((with_reducible refine gate_builtin (b := .append) (xs := #[.tmp 38, .tmp 42]) rfl ?_); at_builtin; refine Kd.R_append (Kd.int .i64) (w0 := w) w.heap.size rfl (.tmp 38) (.tmp 42) 30 2 (.int .i64 0) 8 rfl Try.underlying30 info2 rfl (by decide) (by omega) u10 x10_1 (rd t557 0) [.int .i64 (rd t557 0)] (fun k_ => some k_ ≠ (.slice (some ad573) t557.length co48 : Value).ownBlock) (fun _ => False) rfl rfl ?aP (fun _ hk => hk.elim) ?aF ?aO ?aB ?aS ?aL ?_; (case aP => exact rfl); (case aB => exact (by repeat (first | (with_reducible first | exact HB.out | apply below_alloc | apply pw_below_drewN | apply below_drew1 | refine below_set ?_ GE549.out) | exact HB.out))); (case aF => exact (fun k_ hk => Kd.fresh' (Kd.R_lt (by (with_reducible repeat (first | apply Kd.R_alloc | apply Kd.R_drewN | apply Kd.R_drew)); exact HO559.out)) k_ hk)); (case aO => exact (by (with_reducible repeat (first | apply Kd.R_alloc | apply Kd.R_drewN | apply Kd.R_drew)); exact HO_10.out)); (case aS => exact (below_size (by repeat (first | (with_reducible first | exact HB.out | apply below_alloc | apply pw_below_drewN | apply below_drew1 | refine below_set ?_ GE549.out) | exact HB.out)))); (case aL => have := LMc43.out; omega); intro v575 w49 ho hb hg hat; rw [← Ny574.out] at ho; have n0_ := Aside0.mk (Kd.R_over' (by (with_reducible repeat (first | apply Kd.R_alloc | apply Kd.R_drewN | apply Kd.R_drew)); exact HO_9.out) (Kd.R_typed (by (with_reducible repeat (first | apply Kd.R_alloc | apply Kd.R_drewN | apply Kd.R_drew)); exact HO_10.out)) (by decide) hg); have n1_ := Aside0.mk (blk_grown (g := gb549) (o := .cells #[.int .i64 x550000_1, .int .i64 x550001_1, .int .i64 x550002_1, .int .i64 x550003_1] 24 (0, 0)) (by (with_reducible repeat (first | refine blk_drewN ?_ _ | refine blk_drew ?_ | refine blk_alloc ?_ _)); exact BK549.out) hg (Kd.R_ne HO_10.out BK549.out (by decide))); have n2_ := Aside0.mk (Kd.R_after (ok := (fun _ => True)) (by (with_reducible repeat (first | apply Kd.R_alloc | apply Kd.R_drewN | apply Kd.R_drew)); exact Kd.R_mono HO559.out (fun _ hk => ⟨trivial, hk⟩)) hg hat); have n3_ := Aside0.mk (hb); have n4_ := Aside0.mk (ho); clear HO_9; clear BK549; clear HO559; clear HB; clear HO_10; have HO_9 := n0_; have BK549 := n1_; have HO559 := n2_; have HB := n3_; have HO576 := n4_; clear n0_ n1_ n2_ n3_ n4_; clear ho hb hg hat))
              have n0_ := Aside0.mk (Kd.R_drew HO_9.out)
              have n1_ := Aside0.mk (Kd.R_drew HO559.out)
              have n2_ := Aside0.mk (Kd.R_drew HO576.out)
              have n3_ := Aside0.mk (blk_drew BK549.out)
              have n4_ := Aside0.mk (below_drew1 HB.out)
              clear HO_9
              clear HO559
              clear HO576
              clear BK549
              clear HB
              have HO_9 := n0_
              have HO559 := n1_
              have HO576 := n2_
              have BK549 := n3_
              have HB := n4_
              clear n0_ n1_ n2_ n3_ n4_
              have p577 : 0 ≤ (0 : Int) := (by omega)
              have q577 : 0 < (t557.length : Int) := of_decide_eq_true (by first | (with_reducible assumption) | assumption)
              obtain ⟨ad577, e577, hx577_0⟩ := Kd.at_int (Kd.R_reads' HO559.out).2.2 0 p577 q577
              obtain rfl : ad573 = ad577 := (by injection e577)
              have qi577 : (0 < t557.length) = True := eq_true (by omega)
              (try rw [show ((0 : Int)).toNat = 0 from rfl] at hx577_0)
              (try rw [Addr.add_zero'] at hx577_0)
              replace p577 := eq_true p577
              replace q577 := eq_true q577
              refine start_ (n := 7) (S := fun w' => w'.cell? ⟨gb549, 0, none⟩ = some (.int .i64 x550000_1) ∧ w'.cell? ⟨gb549, 1, none⟩ = some (.int .i64 x550001_1) ∧ w'.cell? ⟨gb549, 2, none⟩ = some (.int .i64 x550002_1) ∧ w'.cell? ⟨gb549, 3, none⟩ = some (.int .i64 x550003_1) ∧ w'.cell? ad573 = some (.int .i64 (rd t557 0))) (ds := [6]) #[false, false, false, false, false, false, false] (by kernel_rfl) rfl rfl ⟨(blk_cell BK549.out 0).trans rfl, (blk_cell BK549.out 1).trans rfl, (blk_cell BK549.out 2).trans rfl, (blk_cell BK549.out 3).trans rfl, hx577_0⟩ (fun hHeld => ?_)
              generalize w49.drew = w50 at HO_9 HO559 HO576 BK549 HB hx577_0 hHeld ⊢
              refine pure_ (i := 1) (N := some 45) (v := ?_) (a' := ?_) #[false, true, false, false, false, false, false] rfl rfl (by kernel_rfl) (fun _ _ _ h => h) (Or.inl ⟨by rfl, ?_⟩) ?_ ?_
              rotate_left
              · intro w'
                go_simp
                with_reducible rfl
              rotate_left
              · simp only [Act.put, List.setIfInBounds_toArray, List.set_cons_zero, List.set_cons_succ, i64_w, i32_w]
                rfl
              refine pure_ (i := 2) (N := some 46) (v := ?_) (a' := ?_) #[false, true, true, false, false, false, false] rfl rfl (by kernel_rfl) (fun _ _ _ h => h) (Or.inl ⟨by rfl, ?_⟩) ?_ ?_
              rotate_left
              · intro w'
                go_simp
                with_reducible rfl
              rotate_left
              · simp only [Act.put, List.setIfInBounds_toArray, List.set_cons_zero, List.set_cons_succ, i64_w, i32_w]
                rfl
              refine pure_ (i := 3) (N := some 47) (v := ?_) (a' := ?_) #[false, true, true, true, false, false, false] rfl rfl (by kernel_rfl) (fun _ _ _ h => h) (Or.inl ⟨by rfl, ?_⟩) ?_ ?_
              rotate_left
              · intro w'
                go_simp
                with_reducible rfl
              rotate_left
              · simp only [Act.put, List.setIfInBounds_toArray, List.set_cons_zero, List.set_cons_succ, i64_w, i32_w]
                rfl
              refine take_ (i := 0) (N := some 44) (v := ?_) (a' := ?_) #[true, true, true, true, false, false, false] rfl rfl (by kernel_rfl) (fun _ _ _ h => h) (Or.inl ⟨by rfl, ?_⟩) hHeld ?_ ?_
              rotate_left
              · rintro w' ⟨s0, s1, s2, s3, s4⟩
                go_simp
                with_reducible rfl
              rotate_left
              · simp only [Act.put, List.setIfInBounds_toArray, List.set_cons_zero, List.set_cons_succ, i64_w, i32_w]
                rfl
              refine take_ (i := 4) (N := some 48) (v := ?_) (a' := ?_) #[true, true, true, true, true, false, false] rfl rfl (by kernel_rfl) (fun _ _ _ h => h) (Or.inl ⟨by rfl, ?_⟩) hHeld ?_ ?_
              rotate_left
              · rintro w' ⟨s0, s1, s2, s3, s4⟩
                go_simp
                with_reducible rfl
              rotate_left
              · simp only [Act.put, List.setIfInBounds_toArray, List.set_cons_zero, List.set_cons_succ, i64_w, i32_w]
                rfl
              refine one_ (i := 5) (N := some 49) #[true, true, true, true, true, true, false] rfl rfl (by kernel_rfl) (by decide) (fun K hK => ?_)
              refine goes_ Try.func43 (by kernel_rfl) rfl #[.agg #[.int .i64 x550000_1, .int .i64 x550001_1, .int .i64 x550002_1, .int .i64 x550003_1], .int .i64 x2_1, .int .i64 (rd t557 0)] (by rfl) rfl rfl (by (try simp only [List.map_toArray, List.map_cons, List.map_nil]); first | done | rfl | (simp only [List.length_drop, List.length_take]; rfl)) ?_
              with_reducible refine (spec_l05Move.calls x550000_1 x550001_1 x550002_1 x550003_1 x2_1 (rd t557 0) t578 t579 t580 t581 _ A44.out).mono ?_
              rintro e w51 ⟨rfl, hb⟩
              have HS4_ := (hb.cell (World.block_lt_of_cell? _ _ (hHeld.2.2.2.2))).trans (hHeld.2.2.2.2)
              refine ⟨_, rfl, ?_⟩
              have n0_ := Aside0.mk (Kd.R_below (by (with_reducible repeat (first | apply Kd.R_alloc | apply Kd.R_drewN | apply Kd.R_drew)); exact HO_9.out) hb)
              have n1_ := Aside0.mk (Kd.R_below (by (with_reducible repeat (first | apply Kd.R_alloc | apply Kd.R_drewN | apply Kd.R_drew)); exact HO559.out) hb)
              have n2_ := Aside0.mk (Kd.R_below (by (with_reducible repeat (first | apply Kd.R_alloc | apply Kd.R_drewN | apply Kd.R_drew)); exact HO576.out) hb)
              have n3_ := Aside0.mk (blk_below (g := gb549) (o := .cells #[.int .i64 x550000_1, .int .i64 x550001_1, .int .i64 x550002_1, .int .i64 x550003_1] 24 (0, 0)) (by (with_reducible repeat (first | refine blk_drewN ?_ _ | refine blk_drew ?_ | refine blk_alloc ?_ _)); exact BK549.out) hb)
              have n4_ := Aside0.mk (below_step (by repeat (first | (with_reducible first | exact HB.out | apply below_alloc | apply pw_below_drewN | apply below_drew1 | refine below_set ?_ GE549.out) | exact HB.out)) hb)
              clear HO_9
              clear HO559
              clear HO576
              clear BK549
              clear HB
              have HO_9 := n0_
              have HO559 := n1_
              have HO576 := n2_
              have BK549 := n3_
              have HB := n4_
              clear n0_ n1_ n2_ n3_ n4_
              (try clear hb)
              (try clear hb2)
              (try clear hk)
              (try clear hi)
              refine hK.out _ _ ⟨(blk_cell BK549.out 0).trans rfl, (blk_cell BK549.out 1).trans rfl, (blk_cell BK549.out 2).trans rfl, (blk_cell BK549.out 3).trans rfl, HS4_⟩ (fun hHeld => ?_)
              clear hK K
              refine norm_ (a' := ?_) ?_ ?_
              rotate_left
              · show Act.put _ (some 49) _ = _
                simp only [Act.put, List.setIfInBounds_toArray, List.set_cons_zero, List.set_cons_succ, i64_w, i32_w]
                rfl
              refine last_ (i := 6) (N := none) #[true, true, true, true, true, true, true] rfl rfl (by kernel_rfl) (by decide) (fun K hK => ?_)
              have hs52 : w51.cell? ⟨gb549, 0, none⟩ = some (.int .i64 x550000_1) := (blk_cell BK549.out 0).trans rfl
              have hfs52 := blk_frozen BK549.out 0
              have hs53 : w51.cell? ⟨gb549, 1, none⟩ = some (.int .i64 x550001_1) := (blk_cell BK549.out 1).trans rfl
              have hfs53 := blk_frozen BK549.out 1
              have hs54 : w51.cell? ⟨gb549, 2, none⟩ = some (.int .i64 x550002_1) := (blk_cell BK549.out 2).trans rfl
              have hfs54 := blk_frozen BK549.out 2
              have hs55 : w51.cell? ⟨gb549, 3, none⟩ = some (.int .i64 x550003_1) := (blk_cell BK549.out 3).trans rfl
              have hfs55 := blk_frozen BK549.out 3
              refine skip_ (w1 := ?_) (by rfl) rfl ?_ ?_
              rotate_left
              · go_simp
                rfl
              refine hK.out _ _ ?_
              clear hK K
              refine done_ (by kernel_rfl) ?_
              try go_wp2
              go_roundg k1
              case measure => have := HK1.out; omega
              case rel => exact ⟨(wrap64 (1 - x2_1)), (t560), (y574), (t578), (t579), (t580), (t581), (by first | rfl | (simp; done) | (simp [*]; done)), H', ⟨by have := HK1.out; omega⟩, ⟨by (with_reducible repeat (first | apply Kd.R_alloc | apply Kd.R_drewN | apply Kd.R_drew)); exact Kd.R_mono (Kd.R_far (p := ⟨gb549, 3, none⟩) (Kd.R_far (p := ⟨gb549, 2, none⟩) (Kd.R_far (p := ⟨gb549, 1, none⟩) (Kd.R_far (p := ⟨gb549, 0, none⟩) (Kd.R_types HO_9.out BK549.out (by decide)) (fun _ hk => hk.2) (.int .i64 t578)) (fun _ hk => hk.2) (.int .i64 t579)) (fun _ hk => hk.2) (.int .i64 t580)) (fun _ hk => hk.2) (.int .i64 t581)) (fun _ hk => trivial)⟩, ⟨by (with_reducible repeat (first | apply Kd.R_alloc | apply Kd.R_drewN | apply Kd.R_drew)); exact Kd.R_mono (Kd.R_far (p := ⟨gb549, 3, none⟩) (Kd.R_far (p := ⟨gb549, 2, none⟩) (Kd.R_far (p := ⟨gb549, 1, none⟩) (Kd.R_far (p := ⟨gb549, 0, none⟩) (Kd.R_types HO576.out BK549.out (by decide)) (fun _ hk => hk.2) (.int .i64 t578)) (fun _ hk => hk.2) (.int .i64 t579)) (fun _ hk => hk.2) (.int .i64 t580)) (fun _ hk => hk.2) (.int .i64 t581)) (fun _ hk => trivial)⟩, ⟨by (with_reducible repeat (first | refine blk_drewN ?_ _ | refine blk_drew ?_ | refine blk_alloc ?_ _)); refine blk_put (cs := #[.int .i64 t578, .int .i64 t579, .int .i64 t580, .int .i64 x550003_1]) ?_ 3 _ rfl; (with_reducible repeat (first | refine blk_drewN ?_ _ | refine blk_drew ?_ | refine blk_alloc ?_ _)); refine blk_put (cs := #[.int .i64 t578, .int .i64 t579, .int .i64 x550002_1, .int .i64 x550003_1]) ?_ 2 _ rfl; (with_reducible repeat (first | refine blk_drewN ?_ _ | refine blk_drew ?_ | refine blk_alloc ?_ _)); refine blk_put (cs := #[.int .i64 t578, .int .i64 x550001_1, .int .i64 x550002_1, .int .i64 x550003_1]) ?_ 1 _ rfl; (with_reducible repeat (first | refine blk_drewN ?_ _ | refine blk_drew ?_ | refine blk_alloc ?_ _)); refine blk_put (cs := #[.int .i64 x550000_1, .int .i64 x550001_1, .int .i64 x550002_1, .int .i64 x550003_1]) ?_ 0 _ rfl; (with_reducible repeat (first | refine blk_drewN ?_ _ | refine blk_drew ?_ | refine blk_alloc ?_ _)); exact BK549.out⟩, ⟨by repeat (first | (with_reducible first | exact HB.out | apply below_alloc | apply pw_below_drewN | apply below_drew1 | refine below_set ?_ GE549.out) | exact HB.out)⟩⟩
            · rw [if_neg c43] at H
              exact absurd H (by simp)
          · rw [if_neg c42] at H
            exact absurd H (by simp)
  · rw [if_neg c5] at H
    have c5b0 : (t550 == 0) = false := beq_eq_false_iff_ne.mpr c5
    have c5b1 : (t550 != 0) = true := bne_iff_ne.mpr c5
    simp only [Option.some.injEq, Prod.mk.injEq] at H
    obtain ⟨rfl, rfl⟩ := H
    go_enter Try.func30, Try.ntmps30
    go_wp2_with (first | ((with_reducible refine gate_dst (N := 3) rfl ?_); refine box_event ?hg (N := 3) ?hd (cs := #[.int .i64 a0_0, .int .i64 a0_1, .int .i64 a0_2, .int .i64 a0_3]) (t := 24) ?hr ?_; (case hd => rfl); (case hg => rfl); (case hr => first | (go_simp; done) | (go_simp; rfl)); intro gb549 hg w56 hbox hb; have n0_ := Aside0.mk (below_step (by repeat (first | (with_reducible first | exact HB.out | apply below_alloc | apply pw_below_drewN | apply below_drew1) | exact HB.out)) hb); have n1_ := Aside0.mk (hbox); have n2_ := Aside0.mk ((by rw [hg]; exact (below_size (by repeat (first | (with_reducible first | exact HB.out | apply below_alloc | apply pw_below_drewN | apply below_drew1) | exact HB.out))) : w.heap.size ≤ gb549)); have n3_ := Aside0.mk ((by rw [hg]; exact (below_size (by repeat (first | (with_reducible first | exact HB.out | apply below_alloc | apply pw_below_drewN | apply below_drew1) | exact HB.out))) : w.heap.size ≤ gb549)); clear HB; have HB := n0_; have BK549 := n1_; have GW549 := n2_; have GE549 := n3_; clear n0_ n1_ n2_ n3_; clear hb hbox hg; have hcz57_0 : w56.cell? ⟨gb549, 0, none⟩ = some (.int .i64 a0_0) := (blk_cell BK549.out 0).trans rfl; have hcz57_1 : w56.cell? ⟨gb549, 1, none⟩ = some (.int .i64 a0_1) := (blk_cell BK549.out 1).trans rfl; have hcz57_2 : w56.cell? ⟨gb549, 2, none⟩ = some (.int .i64 a0_2) := (blk_cell BK549.out 2).trans rfl; have hcz57_3 : w56.cell? ⟨gb549, 3, none⟩ = some (.int .i64 a0_3) := (blk_cell BK549.out 3).trans rfl; have hfz57_0 := blk_frozen BK549.out 0; have hfz57_1 := blk_frozen BK549.out 1; have hfz57_2 := blk_frozen BK549.out 2; have hfz57_3 := blk_frozen BK549.out 3) | ((with_reducible refine gate_callee (f := 38) rfl ?_); refine goesL_ (some 15) rfl rfl Try.func38 (by kernel_rfl) rfl #[.agg #[.int .i64 a0_0, .int .i64 a0_1, .int .i64 a0_2, .int .i64 a0_3], .int .i64 a1, .int .i64 a2] rfl (by (try simp only [List.map_toArray, List.map_cons, List.map_nil]); first | done | rfl | (simp only [List.length_drop, List.length_take]; rfl)) ?_; (with_reducible refine (spec_l05Player.calls k a0_0 a0_1 a0_2 a0_3 a1 a2 t550 _ A4.out).mono ?_); rintro e w58 ⟨rfl, hb⟩; refine ⟨_, rfl, ?_⟩; have n0_ := Aside0.mk (blk_below (g := gb549) (o := .cells #[.int .i64 a0_0, .int .i64 a0_1, .int .i64 a0_2, .int .i64 a0_3] 24 (0, 0)) (by (with_reducible repeat (first | refine blk_drewN ?_ _ | refine blk_drew ?_ | refine blk_alloc ?_ _)); exact BK549.out) hb); have n1_ := Aside0.mk (below_step (by repeat (first | (with_reducible first | exact HB.out | apply below_alloc | apply pw_below_drewN | apply below_drew1 | refine below_set ?_ GE549.out) | exact HB.out)) hb); clear BK549; clear HB; have BK549 := n0_; have HB := n1_; clear n0_ n1_; (try clear hb); (try clear hb2); (try clear hk); (try clear hi)))
    go_ret2
    exact ⟨_, by first | rfl | (simp [errW_none, errW_some] <;> rfl) | (simp [*, errW_none, errW_some] <;> rfl), by first | exact Kd.R_nil _ _ _ _ _ | exact Kd.N_nil _ _ _ _ _ | exact Kd.V_nil _ _ _ _ _ | exact Kd.Q_nil _ _ _ _ _ | exact Kd.S_nil _ _ _ _ _, by repeat (first | (with_reducible first | exact HB.out | apply below_alloc | apply pw_below_drewN | apply below_drew1 | refine below_set ?_ GE549.out) | exact HB.out)⟩

end Go.Proofs.Ytimoadhkkbedhaa.Q
