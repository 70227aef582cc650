-- Written by a program of this session (wip/tools/px.sh) over the seat's translation; Lean checks it.
import Derived.Test.YtbmkhdeeengbmaaQ0
import Derived.Test.YtbmkhdeeengbmaaSq
import Derived.Test.YtbmkhdeeengbmaaQ4
namespace Go.Proofs.Ytbmkhdeeengbmaa.Q
open Go.RowKit Go.Proofs.YtbmkhdeeengbmaaW.PrintWords Go.Proofs.YtbmkhdeeengbmaaW.PrintLast Go.Proofs.YtbmkhdeeengbmaaW.PrintMore
attribute [local go_sem] max2_int min2_int max_two min_two max_three min_three max_four min_four   -- for this text's walks alone
set_option linter.unusedVariables false
set_option linter.unusedSimpArgs false

/-! ### spec_FilledLine: function 18 -/
mutual
def spec_FilledLine.l0 : Nat → List Int → Int → Int → Int → List Int → Option (Int × Int × Int)
  | 0, _, _, _, _, _ => none
  | k + 1, x22, x23, x24, x534000, x534001 => if x24 < x23 then (if 0 ≤ x24 then (if x24 < (x22.length : Int) then (spec_FilledLine.l1 k x24 (rd x22 x24) 0 x22 x23 x24 x534000 x534001) else (none)) else (none)) else (some (0, 0, 4))
def spec_FilledLine.l1 : Nat → Int → Int → Int → List Int → Int → Int → Int → List Int → Option (Int × Int × Int)
  | 0, _, _, _, _, _, _, _, _ => none
  | k + 1, x10, x11, x12, x22, x23, x24, x534000, x534001 => if x12 < (x534001.length : Int) then (if 0 ≤ x12 then (if (Go.bits .and .i64 (rd x534001 x12) x11) = (rd x534001 x12) then (some (x10, rd x534001 x12, 0)) else (spec_FilledLine.l1 k x10 x11 (wrap64 (x12 + 1)) x22 x23 x24 x534000 x534001)) else (none)) else (spec_FilledLine.l0 k x22 x23 (wrap64 (x24 + 1)) x534000 x534001)
end
def spec_FilledLine.f (k : Nat) (a0_0 : Int) (l0_1 : List Int) (a1 : Int) (a2 : Int) : Option (Int × Int × Int) := (spec_l07Sets.f k a0_0 l0_1 a1 a2).bind fun t534 => (if t534 = 0 then ((some (([a1, a2] : List Int) : List Int)).bind fun y535 => (spec_FilledLine.l0 k y535 (y535.length : Int) 0 a0_0 l0_1)) else (some (0, 0, t534)))
theorem spec_FilledLine.mono_l : ∀ k, (∀ y0 y1 y2 y3 y4, LeO (spec_FilledLine.l0 k y0 y1 y2 y3 y4) (spec_FilledLine.l0 (k + 1) y0 y1 y2 y3 y4)) ∧ (∀ y0 y1 y2 y3 y4 y5 y6 y7, LeO (spec_FilledLine.l1 k y0 y1 y2 y3 y4 y5 y6 y7) (spec_FilledLine.l1 (k + 1) y0 y1 y2 y3 y4 y5 y6 y7))
  | 0 => ⟨fun _ _ _ _ _ r h => by simp [spec_FilledLine.l0] at h, fun _ _ _ _ _ _ _ _ r h => by simp [spec_FilledLine.l1] at h⟩
  | k + 1 => by
    obtain ⟨ih0, ih1⟩ := spec_FilledLine.mono_l k
    refine ⟨?_, ?_⟩
    · intro y0 y1 y2 y3 y4
      unfold spec_FilledLine.l0
      repeat' first
      | (with_reducible exact ih0 _ _ _ _ _)
      | (with_reducible exact ih1 _ _ _ _ _ _ _ _)
      | (with_reducible exact spec_l07Sets.mono _ _ _ _ _)
      | (with_reducible exact LeO.refl _)
      | (with_reducible exact LeO.none _)
      | (with_reducible refine LeO.ite ?_ ?_)
      | (with_reducible refine LeO.bind ?_ (fun _ => ?_))
      | exact ih0 _ _ _ _ _
      | exact ih1 _ _ _ _ _ _ _ _
      | exact spec_l07Sets.mono _ _ _ _ _
      | exact LeO.none _
      | refine LeO.ite ?_ ?_
      | refine LeO.bind ?_ (fun _ => ?_)
    · intro y0 y1 y2 y3 y4 y5 y6 y7
      unfold spec_FilledLine.l1
      repeat' first
      | (with_reducible exact ih0 _ _ _ _ _)
      | (with_reducible exact ih1 _ _ _ _ _ _ _ _)
      | (with_reducible exact spec_l07Sets.mono _ _ _ _ _)
      | (with_reducible exact LeO.refl _)
      | (with_reducible exact LeO.none _)
      | (with_reducible refine LeO.ite ?_ ?_)
      | (with_reducible refine LeO.bind ?_ (fun _ => ?_))
      | exact ih0 _ _ _ _ _
      | exact ih1 _ _ _ _ _ _ _ _
      | exact spec_l07Sets.mono _ _ _ _ _
      | exact LeO.none _
      | refine LeO.ite ?_ ?_
      | refine LeO.bind ?_ (fun _ => ?_)
theorem spec_FilledLine.mono : ∀ a0 a1 a2 a3 k, LeO (spec_FilledLine.f k a0 a1 a2 a3) (spec_FilledLine.f (k + 1) a0 a1 a2 a3) := by
  intro a0 a1 a2 a3 k
  obtain ⟨ih0, ih1⟩ := spec_FilledLine.mono_l k
  unfold spec_FilledLine.f
  repeat' first
      | (with_reducible exact ih0 _ _ _ _ _)
      | (with_reducible exact ih1 _ _ _ _ _ _ _ _)
      | (with_reducible exact spec_l07Sets.mono _ _ _ _ _)
      | (with_reducible exact LeO.refl _)
      | (with_reducible exact LeO.none _)
      | (with_reducible refine LeO.ite ?_ ?_)
      | (with_reducible refine LeO.bind ?_ (fun _ => ?_))
      | exact ih0 _ _ _ _ _
      | exact ih1 _ _ _ _ _ _ _ _
      | exact spec_l07Sets.mono _ _ _ _ _
      | exact LeO.none _
      | refine LeO.ite ?_ ?_
      | refine LeO.bind ?_ (fun _ => ?_)
set_option maxHeartbeats 8000000 in
set_option maxRecDepth 100000 in
theorem spec_FilledLine.calls (k : Nat) (a0_0 : Int) (A0_1 : Option Addr) (c0_1 : Nat) (l0_1 : List Int) (a1 : Int) (a2 : Int) (r1 : Int) (r2 : Int) (r3 : Int) (w : World) (hr0_1 : Kd.C (Kd.int .i64) w A0_1 l0_1.length l0_1) (hc0_1 : l0_1.length ≤ c0_1) (h : spec_FilledLine.f k a0_0 l0_1 a1 a2 = some (r1, r2, r3)) :
    Calls Try.prog 18 #[.agg #[.int .i64 a0_0, .slice A0_1 l0_1.length c0_1], .int .i64 a1, .int .i64 a2] w fun e w' => e = .returned (.tuple #[.int .i64 r1, .int .i64 r2, .int .i64 r3]) ∧ Below w.heap.size w w' := by
  have hu26 := Try.underlying26
  have HR0_1 := Aside0.mk hr0_1
  have HC0_1 := Aside0.mk hc0_1
  clear hr0_1 hc0_1
  have HB := Aside0.mk (Below.refl w.heap.size w)
  have H : ((spec_l07Sets.f k a0_0 l0_1 a1 a2).bind fun t534 => (if t534 = 0 then ((some (([a1, a2] : List Int) : List Int)).bind fun y535 => (spec_FilledLine.l0 k y535 (y535.length : Int) 0 a0_0 l0_1)) else (some (0, 0, t534)))) = some (r1, r2, r3) := h
  clear h
  obtain ⟨t534, A4, H⟩ := zb H
  by_cases c5 : t534 = 0
  · rw [if_pos c5] at H
    have c5b0 := zq1 c5
    have c5b1 := zq2 c5
    clear c5
    obtain ⟨y535, hy535⟩ : ∃ y_ : List Int, y_ = (([a1, a2] : List Int)) := ⟨_, rfl⟩
    replace H : (spec_FilledLine.l0 k y535 (y535.length : Int) 0 a0_0 l0_1) = some (r1, r2, r3) := by first | (rw [hy535]; with_reducible exact H) | (have H2_ := (Option.bind_some _ _).symm.trans H; rw [hy535]; with_reducible exact H2_) | (have H2_ := (Option.bind_some _ _).symm.trans H; with_reducible exact H2_) | with_reducible exact H | (rw [hy535]; exact H) | exact H
    have Ny535 := Aside0.mk hy535
    clear hy535
    have H' := Aside0.mk H
    clear H
    go_enter Try.func18, Try.ntmps18
    go_wp2_with (first | ((with_reducible refine gate_dst (N := 3) rfl ?_); refine zX 3 #[.int .i64 a0_0, .slice A0_1 l0_1.length c0_1] 26 ?_; intro gb533 hg w6 hbox hb; refine zA4 (below_step (zH HB.out) hb) (hbox) ((zS hg (below_size (zH HB.out)) : w.heap.size ≤ gb533)) ((zS hg (below_size (zH HB.out)) : w.heap.size ≤ gb533)) ?_; clear HB; intro HB BK533 GW533 GE533; clear hb hbox hg; obtain ⟨hcz7_0, hcz7_1⟩ := zc2 BK533; obtain ⟨hfz7_0, hfz7_1⟩ := zf2 BK533) | (go_at_call 30; (with_reducible refine (spec_l07Sets.calls k a0_0 _ _ l0_1 a1 a2 t534 _ ?side1 ?side2 A4.out).mono ?_); (case side1 => repeat (first | exact (Kd.C_below HR0_1.out HB.out) | (with_reducible refine Kd.C_alloc ?_ _) | (with_reducible refine Kd.C_drewN ?_ _) | (with_reducible refine Kd.C_drew ?_))); (case side2 => exact HC0_1.out); rintro e w8 ⟨rfl, hb⟩; refine zA2 (blk_below (g := gb533) (o := .cells #[.int .i64 a0_0, .slice A0_1 l0_1.length c0_1] 26 (0, 0)) (zB BK533.out) hb) (below_step (zH1 HB.out GE533.out) hb) ?_; clear BK533 HB; intro BK533 HB; (try clear hb); (try clear hb2); (try clear hk); (try clear hi)) | ((with_reducible refine gate_dst (N := 22) rfl ?_); refine Kd.R_lit (Kd.int .i64) _ 2 ?hg (N := 22) ?hd (xs := ([a1, a2] : List Int)) (inner := [.int .i64 a1, .int .i64 a2]) (ok := fun _ => True) (okp := fun _ => True) ?hr ?hp (fun _ hk => hk) trivial (Below.refl _ _) (Nat.le_refl _) (by simp) ?_; (case hd => rfl); (case hg => rfl); (case hr => first | (go_simp; done) | (go_simp; rfl)); (case hp => exact (Reps.one (show Kd.M (Kd.int .i64) _ _ _ a1 [.int .i64 a1] from rfl) (Reps.one (show Kd.M (Kd.int .i64) _ _ _ a2 [.int .i64 a2] from rfl) (Reps.none _ _)))); intro v536 w9 ho10 hb hg_ hnew_; clear hg_ hnew_; (first | rw [← Ny535.out] at ho10 | (simp only [Int.reduceToNat] at ho10; rw [← Ny535.out] at ho10)); refine zA3 (Kd.R_lower ho10 (below_size (zH1 HB.out GE533.out))) (blk_below (g := gb533) (o := .cells #[.int .i64 a0_0, .slice A0_1 l0_1.length c0_1] 26 (0, 0)) (zB BK533.out) hb) (below_step (zH1 HB.out GE533.out) hb) ?_; clear BK533 HB; intro HO537 BK533 HB; clear hb ho10; obtain ⟨Ao11, co11, eo11⟩ := Kd.R_slice HO537.out; subst eo11))
    repeat (go_quiet (first | ((with_reducible refine gate_dst (N := 3) rfl ?_); refine zX 3 #[.int .i64 a0_0, .slice A0_1 l0_1.length c0_1] 26 ?_; intro gb533 hg w6 hbox hb; refine zA4 (below_step (zH HB.out) hb) (hbox) ((zS hg (below_size (zH HB.out)) : w.heap.size ≤ gb533)) ((zS hg (below_size (zH HB.out)) : w.heap.size ≤ gb533)) ?_; clear HB; intro HB BK533 GW533 GE533; clear hb hbox hg; obtain ⟨hcz7_0, hcz7_1⟩ := zc2 BK533; obtain ⟨hfz7_0, hfz7_1⟩ := zf2 BK533) | (go_at_call 30; (with_reducible refine (spec_l07Sets.calls k a0_0 _ _ l0_1 a1 a2 t534 _ ?side1 ?side2 A4.out).mono ?_); (case side1 => repeat (first | exact (Kd.C_below HR0_1.out HB.out) | (with_reducible refine Kd.C_alloc ?_ _) | (with_reducible refine Kd.C_drewN ?_ _) | (with_reducible refine Kd.C_drew ?_))); (case side2 => exact HC0_1.out); rintro e w8 ⟨rfl, hb⟩; refine zA2 (blk_below (g := gb533) (o := .cells #[.int .i64 a0_0, .slice A0_1 l0_1.length c0_1] 26 (0, 0)) (zB BK533.out) hb) (below_step (zH1 HB.out GE533.out) hb) ?_; clear BK533 HB; intro BK533 HB; (try clear hb); (try clear hb2); (try clear hk); (try clear hi)) | ((with_reducible refine gate_dst (N := 22) rfl ?_); refine Kd.R_lit (Kd.int .i64) _ 2 ?hg (N := 22) ?hd (xs := ([a1, a2] : List Int)) (inner := [.int .i64 a1, .int .i64 a2]) (ok := fun _ => True) (okp := fun _ => True) ?hr ?hp (fun _ hk => hk) trivial (Below.refl _ _) (Nat.le_refl _) (by simp) ?_; (case hd => rfl); (case hg => rfl); (case hr => first | (go_simp; done) | (go_simp; rfl)); (case hp => exact (Reps.one (show Kd.M (Kd.int .i64) _ _ _ a1 [.int .i64 a1] from rfl) (Reps.one (show Kd.M (Kd.int .i64) _ _ _ a2 [.int .i64 a2] from rfl) (Reps.none _ _)))); intro v536 w9 ho10 hb hg_ hnew_; clear hg_ hnew_; (first | rw [← Ny535.out] at ho10 | (simp only [Int.reduceToNat] at ho10; rw [← Ny535.out] at ho10)); refine zA3 (Kd.R_lower ho10 (below_size (zH1 HB.out GE533.out))) (blk_below (g := gb533) (o := .cells #[.int .i64 a0_0, .slice A0_1 l0_1.length c0_1] 26 (0, 0)) (zB BK533.out) hb) (below_step (zH1 HB.out GE533.out) hb) ?_; clear BK533 HB; intro HO537 BK533 HB; clear hb ho10; obtain ⟨Ao11, co11, eo11⟩ := Kd.R_slice HO537.out; subst eo11)); try go_wp2_with (first | ((with_reducible refine gate_dst (N := 3) rfl ?_); refine zX 3 #[.int .i64 a0_0, .slice A0_1 l0_1.length c0_1] 26 ?_; intro gb533 hg w6 hbox hb; refine zA4 (below_step (zH HB.out) hb) (hbox) ((zS hg (below_size (zH HB.out)) : w.heap.size ≤ gb533)) ((zS hg (below_size (zH HB.out)) : w.heap.size ≤ gb533)) ?_; clear HB; intro HB BK533 GW533 GE533; clear hb hbox hg; obtain ⟨hcz7_0, hcz7_1⟩ := zc2 BK533; obtain ⟨hfz7_0, hfz7_1⟩ := zf2 BK533) | (go_at_call 30; (with_reducible refine (spec_l07Sets.calls k a0_0 _ _ l0_1 a1 a2 t534 _ ?side1 ?side2 A4.out).mono ?_); (case side1 => repeat (first | exact (Kd.C_below HR0_1.out HB.out) | (with_reducible refine Kd.C_alloc ?_ _) | (with_reducible refine Kd.C_drewN ?_ _) | (with_reducible refine Kd.C_drew ?_))); (case side2 => exact HC0_1.out); rintro e w8 ⟨rfl, hb⟩; refine zA2 (blk_below (g := gb533) (o := .cells #[.int .i64 a0_0, .slice A0_1 l0_1.length c0_1] 26 (0, 0)) (zB BK533.out) hb) (below_step (zH1 HB.out GE533.out) hb) ?_; clear BK533 HB; intro BK533 HB; (try clear hb); (try clear hb2); (try clear hk); (try clear hi)) | ((with_reducible refine gate_dst (N := 22) rfl ?_); refine Kd.R_lit (Kd.int .i64) _ 2 ?hg (N := 22) ?hd (xs := ([a1, a2] : List Int)) (inner := [.int .i64 a1, .int .i64 a2]) (ok := fun _ => True) (okp := fun _ => True) ?hr ?hp (fun _ hk => hk) trivial (Below.refl _ _) (Nat.le_refl _) (by simp) ?_; (case hd => rfl); (case hg => rfl); (case hr => first | (go_simp; done) | (go_simp; rfl)); (case hp => exact (Reps.one (show Kd.M (Kd.int .i64) _ _ _ a1 [.int .i64 a1] from rfl) (Reps.one (show Kd.M (Kd.int .i64) _ _ _ a2 [.int .i64 a2] from rfl) (Reps.none _ _)))); intro v536 w9 ho10 hb hg_ hnew_; clear hg_ hnew_; (first | rw [← Ny535.out] at ho10 | (simp only [Int.reduceToNat] at ho10; rw [← Ny535.out] at ho10)); refine zA3 (Kd.R_lower ho10 (below_size (zH1 HB.out GE533.out))) (blk_below (g := gb533) (o := .cells #[.int .i64 a0_0, .slice A0_1 l0_1.length c0_1] 26 (0, 0)) (zB BK533.out) hb) (below_step (zH1 HB.out GE533.out) hb) ?_; clear BK533 HB; intro HO537 BK533 HB; clear hb ho10; obtain ⟨Ao11, co11, eo11⟩ := Kd.R_slice HO537.out; subst eo11)))
    go_loopg [24] k (fun kq v24 w' => ∃ (x24_1 : Int), v24 = .int .i64 x24_1 ∧ Aside0 (spec_FilledLine.l0 kq y535 (y535.length : Int) x24_1 a0_0 l0_1 = some (r1, r2, r3)) ∧ Aside0 (kq ≤ k) ∧ Aside0 (Kd.R (Kd.int .i64) 2 w' w.heap.size (fun _ => True) (.slice Ao11 y535.length co11) y535) ∧ Aside0 (w'.heap[gb533]? = some (.cells #[.int .i64 a0_0, (.slice A0_1 l0_1.length c0_1)] 26 (0, 0))) ∧ Aside0 (Below w.heap.size w w'))
    case atStart => exact ⟨(0), (zF), H', ⟨Nat.le_refl _⟩, ⟨zR HO537.out⟩, ⟨zB BK533.out⟩, ⟨zH1 HB.out GE533.out⟩⟩
    case round =>
      clear H'
      try clear c1
      try clear p2
      try clear c5
      try clear c5b0
      try clear c5b1
      try clear hcz7_0
      try clear hcz7_1
      try clear hfz7_0
      try clear hfz7_1
      obtain ⟨x24_1, rfl, HA, HK1, HO_22, BK533, HB⟩ := hrel
      cases gk with
      | zero => exact absurd HA.out (by simp [spec_FilledLine.l0])
      | succ k1 =>
        have H := HA.out
        clear HA
        simp only [spec_FilledLine.l0] at H
        by_cases c12 : x24_1 < (y535.length : Int)
        · rw [if_pos c12] at H
          have c12b0 := decide_eq_true c12
          clear c12
          by_cases c13 : 0 ≤ x24_1
          · rw [if_pos c13] at H
            have c13b0 := decide_eq_true c13
            clear c13
            by_cases c14 : x24_1 < (y535.length : Int)
            · rw [if_pos c14] at H
              have c14b0 := decide_eq_true c14
              clear c14
              have H' := Aside0.mk H
              clear H
              have p538 : 0 ≤ (x24_1 : Int) := of_decide_eq_true (by first | (with_reducible assumption) | assumption)
              have q538 : x24_1 < (y535.length : Int) := of_decide_eq_true (by first | (with_reducible assumption) | assumption)
              obtain ⟨ad538, e538, hx538_0⟩ := Kd.at_int (Kd.R_reads' HO_22.out).2.2 x24_1 p538 q538
              cases e538
              replace p538 := eq_true p538
              replace q538 := eq_true q538
              go_wp2
              repeat (go_quiet (fail); try go_wp2)
              go_loopg [12] k1 (fun kq v12 w' => ∃ (x12_2 : Int), v12 = .int .i64 x12_2 ∧ Aside0 (spec_FilledLine.l1 kq x24_1 (rd y535 x24_1) x12_2 y535 (y535.length : Int) x24_1 a0_0 l0_1 = some (r1, r2, r3)) ∧ Aside0 (kq ≤ k1) ∧ Aside0 (Kd.R (Kd.int .i64) 2 w' w.heap.size (fun _ => True) (.slice (some ad538) y535.length co11) y535) ∧ Aside0 (w'.heap[gb533]? = some (.cells #[.int .i64 a0_0, (.slice A0_1 l0_1.length c0_1)] 26 (0, 0))) ∧ Aside0 (Below w.heap.size w w'))
              case atStart => exact ⟨(0), (zF), H', ⟨Nat.le_refl _⟩, ⟨zR HO_22.out⟩, ⟨zB BK533.out⟩, ⟨zH1 HB.out GE533.out⟩⟩
              case round =>
                clear H'
                try clear c1
                try clear p2
                try clear c5
                try clear c5b0
                try clear c5b1
                try clear p5
                try clear q5
                try clear hx5
                try clear c12
                try clear c12b0
                try clear c13
                try clear c13b0
                try clear c14
                try clear c14b0
                try clear hcz7_0
                try clear hcz7_1
                try clear hfz7_0
                try clear hfz7_1
                try clear hx538_0
                try clear p2
                try clear p538
                try clear q538
                obtain ⟨x12_2, rfl, HA, HK2, HO_22, BK533, HB⟩ := hrel
                cases gk with
                | zero => exact absurd HA.out (by simp [spec_FilledLine.l1])
                | succ k2 =>
                  have H := HA.out
                  clear HA
                  simp only [spec_FilledLine.l1] at H
                  by_cases c15 : x12_2 < (l0_1.length : Int)
                  · rw [if_pos c15] at H
                    have c15b0 := decide_eq_true c15
                    clear c15
                    by_cases c16 : 0 ≤ x12_2
                    · rw [if_pos c16] at H
                      have c16b0 := decide_eq_true c16
                      clear c16
                      by_cases c17 : (Go.bits .and .i64 (rd l0_1 x12_2) (rd y535 x24_1)) = (rd l0_1 x12_2)
                      · rw [if_pos c17] at H
                        have c17b0 := zq1 c17
                        have c17b1 := zq2 c17
                        clear c17
                        simp only [Option.some.injEq, Prod.mk.injEq] at H
                        obtain ⟨rfl, rfl, rfl⟩ := H
                        obtain ⟨hcz18_0, hcz18_1⟩ := zc2 BK533
                        obtain ⟨hfz18_0, hfz18_1⟩ := zf2 BK533
                        have p539 : 0 ≤ (x12_2 : Int) := of_decide_eq_true (by first | (with_reducible assumption) | assumption)
                        have q539 : x12_2 < (l0_1.length : Int) := of_decide_eq_true (by first | (with_reducible assumption) | assumption)
                        obtain ⟨ad539, e539, hx539_0⟩ := Kd.at_int HR0_1.out x12_2 p539 q539
                        cases e539
                        replace hx539_0 := (HB.out.cell (World.block_lt_of_cell? w _ hx539_0)).trans hx539_0
                        replace p539 := eq_true p539
                        replace q539 := eq_true q539
                        have p540 : 0 ≤ (x12_2 : Int) := of_decide_eq_true (by first | (with_reducible assumption) | assumption)
                        have q540 : x12_2 < (l0_1.length : Int) := of_decide_eq_true (by first | (with_reducible assumption) | assumption)
                        obtain ⟨ad540, e540, hx540_0⟩ := Kd.at_int HR0_1.out x12_2 p540 q540
                        obtain rfl : ad539 = ad540 := (by injection e540)
                        replace hx540_0 := (HB.out.cell (World.block_lt_of_cell? w _ hx540_0)).trans hx540_0
                        replace p540 := eq_true p540
                        replace q540 := eq_true q540
                        have p541 : 0 ≤ (x12_2 : Int) := of_decide_eq_true (by first | (with_reducible assumption) | assumption)
                        have q541 : x12_2 < (l0_1.length : Int) := of_decide_eq_true (by first | (with_reducible assumption) | assumption)
                        obtain ⟨ad541, e541, hx541_0⟩ := Kd.at_int HR0_1.out x12_2 p541 q541
                        obtain rfl : ad539 = ad541 := (by injection e541)
                        replace hx541_0 := (HB.out.cell (World.block_lt_of_cell? w _ hx541_0)).trans hx541_0
                        replace p541 := eq_true p541
                        replace q541 := eq_true q541
                        go_wp2
                        repeat (go_quiet (fail); try go_wp2)
                        go_ret3
                        exact ⟨zE, zH1 HB.out GE533.out⟩
                      · rw [if_neg c17] at H
                        have c17b0 := zq3 c17
                        have c17b1 := zq4 c17
                        have H' := Aside0.mk H
                        clear H
                        obtain ⟨hcz19_0, hcz19_1⟩ := zc2 BK533
                        obtain ⟨hfz19_0, hfz19_1⟩ := zf2 BK533
                        have p539 : 0 ≤ (x12_2 : Int) := of_decide_eq_true (by first | (with_reducible assumption) | assumption)
                        have q539 : x12_2 < (l0_1.length : Int) := of_decide_eq_true (by first | (with_reducible assumption) | assumption)
                        obtain ⟨ad539, e539, hx539_0⟩ := Kd.at_int HR0_1.out x12_2 p539 q539
                        cases e539
                        replace hx539_0 := (HB.out.cell (World.block_lt_of_cell? w _ hx539_0)).trans hx539_0
                        replace p539 := eq_true p539
                        replace q539 := eq_true q539
                        have p540 : 0 ≤ (x12_2 : Int) := of_decide_eq_true (by first | (with_reducible assumption) | assumption)
                        have q540 : x12_2 < (l0_1.length : Int) := of_decide_eq_true (by first | (with_reducible assumption) | assumption)
                        obtain ⟨ad540, e540, hx540_0⟩ := Kd.at_int HR0_1.out x12_2 p540 q540
                        obtain rfl : ad539 = ad540 := (by injection e540)
                        replace hx540_0 := (HB.out.cell (World.block_lt_of_cell? w _ hx540_0)).trans hx540_0
                        replace p540 := eq_true p540
                        replace q540 := eq_true q540
                        go_wp2
                        repeat (go_quiet (fail); try go_wp2)
                        go_roundg k2
                        case measure => have := HK1.out; have := HK2.out; omega
                        case rel => exact ⟨(wrap64 (x12_2 + 1)), (zF), H', ⟨by have := HK1.out; have := HK2.out; omega⟩, ⟨zR HO_22.out⟩, ⟨zB BK533.out⟩, ⟨zH1 HB.out GE533.out⟩⟩
                    · rw [if_neg c16] at H
                      exact absurd H (by simp)
                  · rw [if_neg c15] at H
                    have c15b0 := decide_eq_false c15
                    clear c15
                    have H' := Aside0.mk H
                    clear H
                    obtain ⟨hcz20_0, hcz20_1⟩ := zc2 BK533
                    obtain ⟨hfz20_0, hfz20_1⟩ := zf2 BK533
                    go_wp2
                    repeat (go_quiet (fail); try go_wp2)
                    go_roundg k2
                    case measure => have := HK1.out; have := HK2.out; omega
                    case rel => exact ⟨(wrap64 (x24_1 + 1)), (zF), H', ⟨by have := HK1.out; have := HK2.out; omega⟩, ⟨zR HO_22.out⟩, ⟨zB BK533.out⟩, ⟨zH1 HB.out GE533.out⟩⟩
            · rw [if_neg c14] at H
              exact absurd H (by simp)
          · rw [if_neg c13] at H
            exact absurd H (by simp)
        · rw [if_neg c12] at H
          have c12b0 := decide_eq_false c12
          clear c12
          simp only [Option.some.injEq, Prod.mk.injEq] at H
          obtain ⟨rfl, rfl, rfl⟩ := H
          go_wp2
          repeat (go_quiet (fail); try go_wp2)
          go_ret3
          exact ⟨zE, zH1 HB.out GE533.out⟩
  · rw [if_neg c5] at H
    have c5b0 := zq3 c5
    have c5b1 := zq4 c5
    simp only [Option.some.injEq, Prod.mk.injEq] at H
    obtain ⟨rfl, rfl, rfl⟩ := H
    go_enter Try.func18, Try.ntmps18
    go_wp2_with (first | ((with_reducible refine gate_dst (N := 3) rfl ?_); refine zX 3 #[.int .i64 a0_0, .slice A0_1 l0_1.length c0_1] 26 ?_; intro gb533 hg w21 hbox hb; refine zA4 (below_step (zH HB.out) hb) (hbox) ((zS hg (below_size (zH HB.out)) : w.heap.size ≤ gb533)) ((zS hg (below_size (zH HB.out)) : w.heap.size ≤ gb533)) ?_; clear HB; intro HB BK533 GW533 GE533; clear hb hbox hg; obtain ⟨hcz22_0, hcz22_1⟩ := zc2 BK533; obtain ⟨hfz22_0, hfz22_1⟩ := zf2 BK533) | (go_at_call 30; (with_reducible refine (spec_l07Sets.calls k a0_0 _ _ l0_1 a1 a2 t534 _ ?side1 ?side2 A4.out).mono ?_); (case side1 => repeat (first | exact (Kd.C_below HR0_1.out HB.out) | (with_reducible refine Kd.C_alloc ?_ _) | (with_reducible refine Kd.C_drewN ?_ _) | (with_reducible refine Kd.C_drew ?_))); (case side2 => exact HC0_1.out); rintro e w23 ⟨rfl, hb⟩; refine zA2 (blk_below (g := gb533) (o := .cells #[.int .i64 a0_0, .slice A0_1 l0_1.length c0_1] 26 (0, 0)) (zB BK533.out) hb) (below_step (zH1 HB.out GE533.out) hb) ?_; clear BK533 HB; intro BK533 HB; (try clear hb); (try clear hb2); (try clear hk); (try clear hi)))
    repeat (go_quiet (first | ((with_reducible refine gate_dst (N := 3) rfl ?_); refine zX 3 #[.int .i64 a0_0, .slice A0_1 l0_1.length c0_1] 26 ?_; intro gb533 hg w21 hbox hb; refine zA4 (below_step (zH HB.out) hb) (hbox) ((zS hg (below_size (zH HB.out)) : w.heap.size ≤ gb533)) ((zS hg (below_size (zH HB.out)) : w.heap.size ≤ gb533)) ?_; clear HB; intro HB BK533 GW533 GE533; clear hb hbox hg; obtain ⟨hcz22_0, hcz22_1⟩ := zc2 BK533; obtain ⟨hfz22_0, hfz22_1⟩ := zf2 BK533) | (go_at_call 30; (with_reducible refine (spec_l07Sets.calls k a0_0 _ _ l0_1 a1 a2 t534 _ ?side1 ?side2 A4.out).mono ?_); (case side1 => repeat (first | exact (Kd.C_below HR0_1.out HB.out) | (with_reducible refine Kd.C_alloc ?_ _) | (with_reducible refine Kd.C_drewN ?_ _) | (with_reducible refine Kd.C_drew ?_))); (case side2 => exact HC0_1.out); rintro e w23 ⟨rfl, hb⟩; refine zA2 (blk_below (g := gb533) (o := .cells #[.int .i64 a0_0, .slice A0_1 l0_1.length c0_1] 26 (0, 0)) (zB BK533.out) hb) (below_step (zH1 HB.out GE533.out) hb) ?_; clear BK533 HB; intro BK533 HB; (try clear hb); (try clear hb2); (try clear hk); (try clear hi))); try go_wp2_with (first | ((with_reducible refine gate_dst (N := 3) rfl ?_); refine zX 3 #[.int .i64 a0_0, .slice A0_1 l0_1.length c0_1] 26 ?_; intro gb533 hg w21 hbox hb; refine zA4 (below_step (zH HB.out) hb) (hbox) ((zS hg (below_size (zH HB.out)) : w.heap.size ≤ gb533)) ((zS hg (below_size (zH HB.out)) : w.heap.size ≤ gb533)) ?_; clear HB; intro HB BK533 GW533 GE533; clear hb hbox hg; obtain ⟨hcz22_0, hcz22_1⟩ := zc2 BK533; obtain ⟨hfz22_0, hfz22_1⟩ := zf2 BK533) | (go_at_call 30; (with_reducible refine (spec_l07Sets.calls k a0_0 _ _ l0_1 a1 a2 t534 _ ?side1 ?side2 A4.out).mono ?_); (case side1 => repeat (first | exact (Kd.C_below HR0_1.out HB.out) | (with_reducible refine Kd.C_alloc ?_ _) | (with_reducible refine Kd.C_drewN ?_ _) | (with_reducible refine Kd.C_drew ?_))); (case side2 => exact HC0_1.out); rintro e w23 ⟨rfl, hb⟩; refine zA2 (blk_below (g := gb533) (o := .cells #[.int .i64 a0_0, .slice A0_1 l0_1.length c0_1] 26 (0, 0)) (zB BK533.out) hb) (below_step (zH1 HB.out GE533.out) hb) ?_; clear BK533 HB; intro BK533 HB; (try clear hb); (try clear hb2); (try clear hk); (try clear hi))))
    go_ret3
    exact ⟨zE, zH1 HB.out GE533.out⟩

end Go.Proofs.Ytbmkhdeeengbmaa.Q
