-- Written by a program of this session (wip/tools/px.sh) over the seat's translation; Lean checks it.
import Derived.Test.YtelfllbjcpndfaaQ0
import Derived.Test.YtelfllbjcpndfaaSq
import Derived.Test.YtelfllbjcpndfaaQ1
import Derived.Test.YtelfllbjcpndfaaQ2
import Derived.Test.YtelfllbjcpndfaaQ4
import Derived.Test.YtelfllbjcpndfaaQ4b
namespace Go.Proofs.Ytelfllbjcpndfaa.Q
open Go.RowKit Go.Proofs.YtelfllbjcpndfaaW.PrintWords Go.Proofs.YtelfllbjcpndfaaW.PrintLast Go.Proofs.YtelfllbjcpndfaaW.PrintMore
attribute [local go_sem] max2_int min2_int max_two min_two max_three min_three max_four min_four   -- for this text's walks alone
set_option linter.unusedVariables false
set_option linter.unusedSimpArgs false

/-! ### impl_AddEdge: function 16 -/
def impl_AddEdge.j0 : Nat → Int → Int → Bool → Int → Int → Int → Option (Int × Int × Int × Int × Int)
  | 0, _, _, _, _, _, _ => none
  | k + 1, x1, x7, x21, x374000, x374001, x374002 => if x21 = true then (some (0, 0, 0, 0, 5)) else (if x7 = 0 then ((impl_Boxes_add.f k x374000 x374001 x374002 x1).bind fun bt378 => (some (bt378.1, bt378.2.1, bt378.2.2.1, bt378.2.2.2, 0))) else (some (0, 0, 0, 0, x7)))
def impl_AddEdge.f (k : Nat) (a0_0 : Int) (a0_1 : Int) (a0_2 : Int) (a1 : Int) : Option (Int × Int × Int × Int × Int) := (impl_Boxes_edges.f a0_0 a0_1 a0_2).bind fun t375 => ((impl_boxesCode.f k a0_0 a0_1 a0_2 a1 t375).bind fun t376 => (if t376 = 0 then ((impl_Boxes_has.f a0_0 a0_1 a0_2 a1).bind fun t377 => (impl_AddEdge.j0 k a1 t376 t377 a0_0 a0_1 a0_2)) else (impl_AddEdge.j0 k a1 t376 false a0_0 a0_1 a0_2)))
theorem impl_AddEdge.mono_l : ∀ k, (∀ y0 y1 y2 y3 y4 y5, LeO (impl_AddEdge.j0 k y0 y1 y2 y3 y4 y5) (impl_AddEdge.j0 (k + 1) y0 y1 y2 y3 y4 y5))
  | 0 => fun _ _ _ _ _ _ r h => by simp [impl_AddEdge.j0] at h
  | k + 1 => by
    have ih0 := impl_AddEdge.mono_l k
    · intro y0 y1 y2 y3 y4 y5
      unfold impl_AddEdge.j0
      repeat' first
      | (with_reducible exact ih0 _ _ _ _ _ _)
      | (with_reducible exact impl_Boxes_add.mono _ _ _ _ _)
      | (with_reducible exact impl_boxesCode.mono _ _ _ _ _ _)
      | (with_reducible exact LeO.refl _)
      | (with_reducible exact LeO.none _)
      | (with_reducible refine LeO.ite ?_ ?_)
      | (with_reducible refine LeO.bind ?_ (fun _ => ?_))
      | exact ih0 _ _ _ _ _ _
      | exact impl_Boxes_add.mono _ _ _ _ _
      | exact impl_boxesCode.mono _ _ _ _ _ _
      | exact LeO.none _
      | refine LeO.ite ?_ ?_
      | refine LeO.bind ?_ (fun _ => ?_)
theorem impl_AddEdge.mono : ∀ a0 a1 a2 a3 k, LeO (impl_AddEdge.f k a0 a1 a2 a3) (impl_AddEdge.f (k + 1) a0 a1 a2 a3) := by
  intro a0 a1 a2 a3 k
  have ih0 := impl_AddEdge.mono_l k
  unfold impl_AddEdge.f
  repeat' first
      | (with_reducible exact ih0 _ _ _ _ _ _)
      | (with_reducible exact impl_Boxes_add.mono _ _ _ _ _)
      | (with_reducible exact impl_boxesCode.mono _ _ _ _ _ _)
      | (with_reducible exact LeO.refl _)
      | (with_reducible exact LeO.none _)
      | (with_reducible refine LeO.ite ?_ ?_)
      | (with_reducible refine LeO.bind ?_ (fun _ => ?_))
      | exact ih0 _ _ _ _ _ _
      | exact impl_Boxes_add.mono _ _ _ _ _
      | exact impl_boxesCode.mono _ _ _ _ _ _
      | exact LeO.none _
      | refine LeO.ite ?_ ?_
      | refine LeO.bind ?_ (fun _ => ?_)
set_option maxHeartbeats 8000000 in
set_option maxRecDepth 100000 in
theorem impl_AddEdge.calls (k : Nat) (a0_0 : Int) (a0_1 : Int) (a0_2 : Int) (a1 : Int) (r1 : Int) (r2 : Int) (r3 : Int) (r4 : Int) (r5 : Int) (w : World) (h : impl_AddEdge.f k a0_0 a0_1 a0_2 a1 = some (r1, r2, r3, r4, r5)) :
    Calls Try.prog 16 #[.agg #[.int .i64 a0_0, .int .i64 a0_1, .int .i64 a0_2], .int .i64 a1] w fun e w' => e = .returned (.tuple #[.agg #[.int .i64 r1, .int .i64 r2, .int .i64 r3], .int .i64 r4, .int .i64 r5]) ∧ Below w.heap.size w w' := by
  have hu25 := Try.underlying25
  have HB := Aside0.mk (Below.refl w.heap.size w)
  have H : ((impl_Boxes_edges.f a0_0 a0_1 a0_2).bind fun t375 => ((impl_boxesCode.f k a0_0 a0_1 a0_2 a1 t375).bind fun t376 => (if t376 = 0 then ((impl_Boxes_has.f a0_0 a0_1 a0_2 a1).bind fun t377 => (impl_AddEdge.j0 k a1 t376 t377 a0_0 a0_1 a0_2)) else (impl_AddEdge.j0 k a1 t376 false a0_0 a0_1 a0_2)))) = some (r1, r2, r3, r4, r5) := h
  clear h
  obtain ⟨t375, A3, H⟩ := zb H
  obtain ⟨t376, A4, H⟩ := zb H
  have HC5 := Aside0.mk H
  clear H
  go_enter Try.func16, Try.ntmps16
  try go_wp2_with (first | ((with_reducible refine gate_dst (N := 2) rfl ?_); refine zX 2 #[.int .i64 a0_0, .int .i64 a0_1, .int .i64 a0_2] 25 ?_; intro gb373 hg w6 hbox hb; refine zA4 (below_step (zH HB.out) hb) (hbox) ((zS hg (below_size (zH HB.out)) : w.heap.size ≤ gb373)) ((zS hg (below_size (zH HB.out)) : w.heap.size ≤ gb373)) ?_; clear HB; intro HB BK373 GW373 GE373; clear hb hbox hg) | ((with_reducible refine gate_dst (N := 4) rfl ?_); refine zX 4 #[.int .i64 0, .int .i64 0, .int .i64 0] 25 ?_; intro gb374 hg w7 hbox hb; refine zA7 (blk_below (g := gb373) (o := .cells #[.int .i64 a0_0, .int .i64 a0_1, .int .i64 a0_2] 25 (0, 0)) (zB BK373.out) hb) (below_step (zH1 HB.out GE373.out) hb) (hbox) ((zS hg (below_size (zH1 HB.out GE373.out)) : w.heap.size ≤ gb374)) ((zS hg (below_size (zH1 HB.out GE373.out)) : w.heap.size ≤ gb374)) ((zl hg (blk_lt (g := gb373) (o := .cells #[.int .i64 a0_0, .int .i64 a0_1, .int .i64 a0_2] 25 (0, 0)) (zB BK373.out)) : gb373 ≠ gb374)) ((zg hg (blk_lt (g := gb373) (o := .cells #[.int .i64 a0_0, .int .i64 a0_1, .int .i64 a0_2] 25 (0, 0)) (zB BK373.out)) : gb374 ≠ gb373)) ?_; clear BK373 HB; intro BK373 HB BK374 GW374 GE374 NB373_374 NB374_373; clear hb hbox hg))
  refine zA3 (blk_drew BK373.out) (blk_drew BK374.out) (below_drew1 HB.out) ?_
  clear BK373 BK374 HB
  intro BK373 BK374 HB
  refine start_ (n := 6) (S := fun w' => w'.cell? ⟨gb373, 0, none⟩ = some (.int .i64 a0_0) ∧ w'.cell? ⟨gb373, 1, none⟩ = some (.int .i64 a0_1) ∧ w'.cell? ⟨gb373, 2, none⟩ = some (.int .i64 a0_2)) (ds := []) #[false, false, false, false, false, false] (by kernel_rfl) rfl rfl ⟨(blk_cell BK373.out 0).trans rfl, (blk_cell BK373.out 1).trans rfl, (blk_cell BK373.out 2).trans rfl⟩ (fun hHeld => ?_)
  generalize w7.drew = w8 at BK373 BK374 HB hHeld ⊢
  refine pure_ (i := 1) (N := some 11) (v := ?_) (a' := ?_) #[false, true, false, false, false, false] rfl rfl (by kernel_rfl) (fun _ _ _ h => h) (Or.inl ⟨by rfl, ?_⟩) ?_ ?_
  rotate_left
  · intro w'
    go_simp
    with_reducible rfl
  rotate_left
  · simp only [Act.put, List.setIfInBounds_toArray, List.set_cons_zero, List.set_cons_succ, i64_w, i32_w]
    rfl
  refine take_ (i := 0) (N := some 10) (v := ?_) (a' := ?_) #[true, true, false, false, false, false] rfl rfl (by kernel_rfl) (fun _ _ _ h => h) (Or.inl ⟨by rfl, ?_⟩) hHeld ?_ ?_
  rotate_left
  · rintro w' ⟨s0, s1, s2⟩
    go_simp
    with_reducible rfl
  rotate_left
  · simp only [Act.put, List.setIfInBounds_toArray, List.set_cons_zero, List.set_cons_succ, i64_w, i32_w]
    rfl
  refine take_ (i := 2) (N := some 12) (v := ?_) (a' := ?_) #[true, true, true, false, false, false] rfl rfl (by kernel_rfl) (fun _ _ _ h => h) (Or.inl ⟨by rfl, ?_⟩) hHeld ?_ ?_
  rotate_left
  · rintro w' ⟨s0, s1, s2⟩
    go_simp
    with_reducible rfl
  rotate_left
  · simp only [Act.put, List.setIfInBounds_toArray, List.set_cons_zero, List.set_cons_succ, i64_w, i32_w]
    rfl
  refine one_ (i := 3) (N := some 13) #[true, true, true, true, false, false] rfl rfl (by kernel_rfl) (by decide) (fun K hK => ?_)
  refine goes_ Try.func36 (by kernel_rfl) rfl #[.agg #[.int .i64 a0_0, .int .i64 a0_1, .int .i64 a0_2]] (by rfl) rfl rfl zM ?_
  with_reducible refine (impl_Boxes_edges.calls a0_0 a0_1 a0_2 t375 _ A3.out).mono ?_
  rintro e w9 ⟨rfl, hb⟩
  refine ⟨_, rfl, ?_⟩
  refine zA3 (blk_below (g := gb373) (o := .cells #[.int .i64 a0_0, .int .i64 a0_1, .int .i64 a0_2] 25 (0, 0)) (zB BK373.out) hb) (blk_below (g := gb374) (o := .cells #[.int .i64 0, .int .i64 0, .int .i64 0] 25 (0, 0)) (zB BK374.out) hb) (below_step (zH2 HB.out GE373.out GE374.out) hb) ?_
  clear BK373 BK374 HB
  intro BK373 BK374 HB
  (try clear hb)
  (try clear hb2)
  (try clear hk)
  (try clear hi)
  refine hK.out _ _ ⟨(blk_cell BK373.out 0).trans rfl, (blk_cell BK373.out 1).trans rfl, (blk_cell BK373.out 2).trans rfl⟩ (fun hHeld => ?_)
  clear hK K
  refine zW (some 13) ?_
  refine one_ (i := 4) (N := some 14) #[true, true, true, true, true, false] rfl rfl (by kernel_rfl) (by decide) (fun K hK => ?_)
  refine goes_ Try.func34 (by kernel_rfl) rfl #[.agg #[.int .i64 a0_0, .int .i64 a0_1, .int .i64 a0_2], .int .i64 a1, .int .i64 t375] (by rfl) rfl rfl zM ?_
  with_reducible refine (impl_boxesCode.calls k a0_0 a0_1 a0_2 a1 t375 t376 _ A4.out).mono ?_
  rintro e w10 ⟨rfl, hb⟩
  refine ⟨_, rfl, ?_⟩
  refine zA3 (blk_below (g := gb373) (o := .cells #[.int .i64 a0_0, .int .i64 a0_1, .int .i64 a0_2] 25 (0, 0)) (zB BK373.out) hb) (blk_below (g := gb374) (o := .cells #[.int .i64 0, .int .i64 0, .int .i64 0] 25 (0, 0)) (zB BK374.out) hb) (below_step (zH2 HB.out GE373.out GE374.out) hb) ?_
  clear BK373 BK374 HB
  intro BK373 BK374 HB
  (try clear hb)
  (try clear hb2)
  (try clear hk)
  (try clear hi)
  refine hK.out _ _ ⟨(blk_cell BK373.out 0).trans rfl, (blk_cell BK373.out 1).trans rfl, (blk_cell BK373.out 2).trans rfl⟩ (fun hHeld => ?_)
  clear hK K
  refine zW (some 14) ?_
  refine pure_ (i := 5) (N := some 7) (v := ?_) (a' := ?_) #[true, true, true, true, true, true] rfl rfl (by kernel_rfl) (fun _ _ _ h => h) (Or.inl ⟨by rfl, ?_⟩) ?_ ?_
  rotate_left
  · intro w'
    go_simp
    with_reducible rfl
  rotate_left
  · simp only [Act.put, List.setIfInBounds_toArray, List.set_cons_zero, List.set_cons_succ, i64_w, i32_w]
    rfl
  refine done_ (by kernel_rfl) ?_
  go_upto_region 2 with (fail)
  go_cut [21] (fun v21 wc => ∃ (kq : Nat) (x21_4 : Bool), v21 = .bool x21_4 ∧ Aside0 (impl_AddEdge.j0 kq a1 t376 x21_4 a0_0 a0_1 a0_2 = some (r1, r2, r3, r4, r5)) ∧ Aside0 (kq ≤ k) ∧ Aside0 (wc.heap[gb373]? = some (.cells #[.int .i64 a0_0, .int .i64 a0_1, .int .i64 a0_2] 25 (0, 0))) ∧ Aside0 (wc.heap[gb374]? = some (.cells #[.int .i64 0, .int .i64 0, .int .i64 0] 25 (0, 0))) ∧ Aside0 (Below w.heap.size w wc))
  case first =>
    have H := HC5.out
    clear HC5
    by_cases c11 : t376 = 0
    · rw [if_pos c11] at H
      have c11b0 := zq1 c11
      have c11b1 := zq2 c11
      clear c11
      (first | rw [c11b0] | (simp only [i64_w, i32_w]; rw [c11b0]) | skip)
      obtain ⟨t377, A12, H⟩ := zb H
      have H' := Aside0.mk H
      clear H
      have hnb13 := NB373_374.out
      have hnc13 := NB374_373.out
      obtain ⟨hcz14_0, hcz14_1, hcz14_2⟩ := zc3 BK373
      obtain ⟨hfz14_0, hfz14_1, hfz14_2⟩ := zf3 BK373
      go_wp2_with (first | (go_at_call 37; (with_reducible refine (impl_Boxes_has.calls a0_0 a0_1 a0_2 a1 t377 _ A12.out).mono ?_); rintro e w15 ⟨rfl, hb⟩; refine zA3 (blk_below (g := gb373) (o := .cells #[.int .i64 a0_0, .int .i64 a0_1, .int .i64 a0_2] 25 (0, 0)) (zB BK373.out) hb) (blk_below (g := gb374) (o := .cells #[.int .i64 0, .int .i64 0, .int .i64 0] 25 (0, 0)) (zB BK374.out) hb) (below_step (zH2 HB.out GE373.out GE374.out) hb) ?_; clear BK373 BK374 HB; intro BK373 BK374 HB; (try clear hb); (try clear hb2); (try clear hk); (try clear hi)))
      go_meet
      case rel => exact ⟨_, (t377), (zF), H', ⟨by first | omega | exact Nat.le_refl _⟩, ⟨zB BK373.out⟩, ⟨zB BK374.out⟩, ⟨zH2 HB.out GE373.out GE374.out⟩⟩
    · rw [if_neg c11] at H
      have c11b0 := zq3 c11
      have c11b1 := zq4 c11
      (first | rw [c11b0] | (simp only [i64_w, i32_w]; rw [c11b0]) | skip)
      have H' := Aside0.mk H
      clear H
      go_wp2
      go_meet
      case rel => exact ⟨_, (false), (zF), H', ⟨by first | omega | exact Nat.le_refl _⟩, ⟨zB BK373.out⟩, ⟨zB BK374.out⟩, ⟨zH2 HB.out GE373.out GE374.out⟩⟩
  case rest =>
    clear HC5
    try clear c1
    try clear p2
    try clear c3
    try clear c11
    try clear c11b0
    try clear c11b1
    try clear c13
    try clear hcz14_0
    try clear hcz14_1
    try clear hcz14_2
    try clear hfz14_0
    try clear hfz14_1
    try clear hfz14_2
    obtain ⟨kq, x21_4, rfl, HA, HJ4, BK373, BK374, HB⟩ := hcut
    cases kq with
    | zero => exact absurd HA.out (by simp [impl_AddEdge.j0])
    | succ kj4 =>
      have H := HA.out
      clear HA
      simp only [impl_AddEdge.j0] at H
      by_cases c16 : x21_4 = true
      · subst c16
        have H1 : (some (0, 0, 0, 0, 5)) = some (r1, r2, r3, r4, r5) := by rw [if_pos rfl] at H; exact H
        clear H
        have H := H1
        clear H1
        simp only [Option.some.injEq, Prod.mk.injEq] at H
        obtain ⟨rfl, rfl, rfl, rfl, rfl⟩ := H
        have hnb17 := NB374_373.out
        have hnc17 := NB373_374.out
        obtain ⟨hcz18_0, hcz18_1, hcz18_2⟩ := zc3 BK374
        obtain ⟨hfz18_0, hfz18_1, hfz18_2⟩ := zf3 BK374
        go_wp2
        refine bodyPost_ret (results_ctt rfl _ _ gb374 25 #[.int .i64 0, .int .i64 0, .int .i64 0] (0, 0) _ rfl (by (with_reducible repeat (first | refine blk_drewN ?_ _ | refine blk_drew ?_ | refine blk_alloc ?_ _)); refine blk_put (cs := #[.int .i64 0, .int .i64 0, .int .i64 0]) ?_ 2 _ rfl; (with_reducible repeat (first | refine blk_drewN ?_ _ | refine blk_drew ?_ | refine blk_alloc ?_ _)); refine blk_put (cs := #[.int .i64 0, .int .i64 0, .int .i64 0]) ?_ 1 _ rfl; (with_reducible repeat (first | refine blk_drewN ?_ _ | refine blk_drew ?_ | refine blk_alloc ?_ _)); refine blk_put (cs := #[.int .i64 0, .int .i64 0, .int .i64 0]) ?_ 0 _ rfl; (with_reducible repeat (first | refine blk_drewN ?_ _ | refine blk_drew ?_ | refine blk_alloc ?_ _)); exact BK374.out) Try.underlying25 rfl (by kernel_rfl)) rfl ?_
        exact ⟨zE, zH2 HB.out GE373.out GE374.out⟩
      · replace c16 := Bool.eq_false_iff.mpr c16
        subst c16
        have H1 : (if t376 = 0 then ((impl_Boxes_add.f kj4 a0_0 a0_1 a0_2 a1).bind fun bt378 => (some (bt378.1, bt378.2.1, bt378.2.2.1, bt378.2.2.2, 0))) else (some (0, 0, 0, 0, t376))) = some (r1, r2, r3, r4, r5) := by rw [if_neg (show ¬ (false = true) by decide)] at H; exact H
        clear H
        have H := H1
        clear H1
        by_cases c19 : t376 = 0
        · rw [if_pos c19] at H
          have c19b0 := zq1 c19
          have c19b1 := zq2 c19
          clear c19
          obtain ⟨⟨t378, t379, t380, t381⟩, A20, H⟩ := zb H; (try dsimp only at H)
          simp only [Option.some.injEq, Prod.mk.injEq] at H
          obtain ⟨rfl, rfl, rfl, rfl, rfl⟩ := H
          have hnb21 := NB373_374.out
          have hnc21 := NB374_373.out
          obtain ⟨hcz22_0, hcz22_1, hcz22_2⟩ := zc3 BK373
          obtain ⟨hfz22_0, hfz22_1, hfz22_2⟩ := zf3 BK373
          go_wp2_with (first | ((with_reducible refine gate_callee (f := 29) rfl ?_); refine goesL_ (some 29) rfl rfl Try.func29 (by kernel_rfl) rfl #[.agg #[.int .i64 a0_0, .int .i64 a0_1, .int .i64 a0_2], .int .i64 a1] rfl zM ?_; (with_reducible refine (impl_Boxes_add.calls kj4 a0_0 a0_1 a0_2 a1 t378 t379 t380 t381 _ A20.out).mono ?_); rintro e w23 ⟨rfl, hb⟩; refine ⟨_, rfl, ?_⟩; refine zA3 (blk_below (g := gb373) (o := .cells #[.int .i64 a0_0, .int .i64 a0_1, .int .i64 a0_2] 25 (0, 0)) (zB BK373.out) hb) (blk_below (g := gb374) (o := .cells #[.int .i64 0, .int .i64 0, .int .i64 0] 25 (0, 0)) (zB BK374.out) hb) (below_step (zH2 HB.out GE373.out GE374.out) hb) ?_; clear BK373 BK374 HB; intro BK373 BK374 HB; (try clear hb); (try clear hb2); (try clear hk); (try clear hi)) | ((with_reducible refine gate_dst (N := 8) rfl ?_); refine zX 8 #[.int .i64 0, .int .i64 0, .int .i64 0] 25 ?_; intro gb382 hg w24 hbox hb; refine zA10 (blk_below (g := gb373) (o := .cells #[.int .i64 a0_0, .int .i64 a0_1, .int .i64 a0_2] 25 (0, 0)) (zB BK373.out) hb) (blk_below (g := gb374) (o := .cells #[.int .i64 0, .int .i64 0, .int .i64 0] 25 (0, 0)) (zB BK374.out) hb) (below_step (zH2 HB.out GE373.out GE374.out) hb) (hbox) ((zS hg (below_size (zH2 HB.out GE373.out GE374.out)) : w.heap.size ≤ gb382)) ((zS hg (below_size (zH2 HB.out GE373.out GE374.out)) : w.heap.size ≤ gb382)) ((zl hg (blk_lt (g := gb373) (o := .cells #[.int .i64 a0_0, .int .i64 a0_1, .int .i64 a0_2] 25 (0, 0)) (zB BK373.out)) : gb373 ≠ gb382)) ((zg hg (blk_lt (g := gb373) (o := .cells #[.int .i64 a0_0, .int .i64 a0_1, .int .i64 a0_2] 25 (0, 0)) (zB BK373.out)) : gb382 ≠ gb373)) ((zl hg (blk_lt (g := gb374) (o := .cells #[.int .i64 0, .int .i64 0, .int .i64 0] 25 (0, 0)) (zB BK374.out)) : gb374 ≠ gb382)) ((zg hg (blk_lt (g := gb374) (o := .cells #[.int .i64 0, .int .i64 0, .int .i64 0] 25 (0, 0)) (zB BK374.out)) : gb382 ≠ gb374)) ?_; clear BK373 BK374 HB; intro BK373 BK374 HB BK382 GW382 GE382 NB373_382 NB382_373 NB374_382 NB382_374; clear hb hbox hg; have hnb25 := NB382_373.out; have hnc25 := NB373_382.out; have hnb26 := NB382_374.out; have hnc26 := NB374_382.out; obtain ⟨hcz27_0, hcz27_1, hcz27_2⟩ := zc3 BK382; obtain ⟨hfz27_0, hfz27_1, hfz27_2⟩ := zf3 BK382; obtain ⟨hcz28_0, hcz28_1, hcz28_2⟩ := zc3 BK374; obtain ⟨hfz28_0, hfz28_1, hfz28_2⟩ := zf3 BK374))
          refine bodyPost_ret (results_ctt rfl _ _ gb374 25 #[.int .i64 t378, .int .i64 t379, .int .i64 t380] (0, 0) _ rfl (by (with_reducible repeat (first | refine blk_drewN ?_ _ | refine blk_drew ?_ | refine blk_alloc ?_ _)); refine blk_put (cs := #[.int .i64 t378, .int .i64 t379, .int .i64 0]) ?_ 2 _ rfl; (with_reducible repeat (first | refine blk_drewN ?_ _ | refine blk_drew ?_ | refine blk_alloc ?_ _)); refine blk_put (cs := #[.int .i64 t378, .int .i64 0, .int .i64 0]) ?_ 1 _ rfl; (with_reducible repeat (first | refine blk_drewN ?_ _ | refine blk_drew ?_ | refine blk_alloc ?_ _)); refine blk_put (cs := #[.int .i64 0, .int .i64 0, .int .i64 0]) ?_ 0 _ rfl; (with_reducible repeat (first | refine blk_drewN ?_ _ | refine blk_drew ?_ | refine blk_alloc ?_ _)); refine blk_far ?_ NB374_382.out _; (with_reducible repeat (first | refine blk_drewN ?_ _ | refine blk_drew ?_ | refine blk_alloc ?_ _)); refine blk_far ?_ NB374_382.out _; (with_reducible repeat (first | refine blk_drewN ?_ _ | refine blk_drew ?_ | refine blk_alloc ?_ _)); refine blk_far ?_ NB374_382.out _; (with_reducible repeat (first | refine blk_drewN ?_ _ | refine blk_drew ?_ | refine blk_alloc ?_ _)); exact BK374.out) Try.underlying25 rfl (by kernel_rfl)) rfl ?_
          exact ⟨zE, zH3 HB.out GE373.out GE374.out GE382.out⟩
        · rw [if_neg c19] at H
          have c19b0 := zq3 c19
          have c19b1 := zq4 c19
          simp only [Option.some.injEq, Prod.mk.injEq] at H
          obtain ⟨rfl, rfl, rfl, rfl, rfl⟩ := H
          have hnb29 := NB374_373.out
          have hnc29 := NB373_374.out
          obtain ⟨hcz30_0, hcz30_1, hcz30_2⟩ := zc3 BK374
          obtain ⟨hfz30_0, hfz30_1, hfz30_2⟩ := zf3 BK374
          go_wp2
          refine bodyPost_ret (results_ctt rfl _ _ gb374 25 #[.int .i64 0, .int .i64 0, .int .i64 0] (0, 0) _ rfl (by (with_reducible repeat (first | refine blk_drewN ?_ _ | refine blk_drew ?_ | refine blk_alloc ?_ _)); refine blk_put (cs := #[.int .i64 0, .int .i64 0, .int .i64 0]) ?_ 2 _ rfl; (with_reducible repeat (first | refine blk_drewN ?_ _ | refine blk_drew ?_ | refine blk_alloc ?_ _)); refine blk_put (cs := #[.int .i64 0, .int .i64 0, .int .i64 0]) ?_ 1 _ rfl; (with_reducible repeat (first | refine blk_drewN ?_ _ | refine blk_drew ?_ | refine blk_alloc ?_ _)); refine blk_put (cs := #[.int .i64 0, .int .i64 0, .int .i64 0]) ?_ 0 _ rfl; (with_reducible repeat (first | refine blk_drewN ?_ _ | refine blk_drew ?_ | refine blk_alloc ?_ _)); exact BK374.out) Try.underlying25 rfl (by kernel_rfl)) rfl ?_
          exact ⟨zE, zH2 HB.out GE373.out GE374.out⟩

end Go.Proofs.Ytelfllbjcpndfaa.Q
