-- Written by a program of this session (wip/tools/px.sh) over the seat's translation; Lean checks it.
import Derived.Test.YtelfllbjcpndfaaQ0
import Derived.Test.YtelfllbjcpndfaaSq
import Derived.Test.YtelfllbjcpndfaaQ1
import Derived.Test.YtelfllbjcpndfaaQ2
namespace Go.Proofs.Ytelfllbjcpndfaa.Q
open Go.RowKit Go.Proofs.YtelfllbjcpndfaaW.PrintWords Go.Proofs.YtelfllbjcpndfaaW.PrintLast Go.Proofs.YtelfllbjcpndfaaW.PrintMore
attribute [local go_sem] max2_int min2_int max_two min_two max_three min_three max_four min_four   -- for this text's walks alone
set_option linter.unusedVariables false
set_option linter.unusedSimpArgs false

/-! ### impl_Boxes_reflected: function 35 -/
mutual
def impl_Boxes_reflected.j0 : Nat → Int → Int → Int → Int → Int → Int → Int → Option (Int × Int × Int)
  | 0, _, _, _, _, _, _, _ => none
  | k + 1, x1, x342000, x342001, x342002, x344000, x344001, x344002 => (impl_Boxes_boxes.f x342000 x342001 x342002).bind fun t344 => (impl_Boxes_reflected.l0 k x1 t344 0 x342000 x342001 x342002 x344000 x344001 x344002)
def impl_Boxes_reflected.l0 : Nat → Int → Int → Int → Int → Int → Int → Int → Int → Int → Option (Int × Int × Int)
  | 0, _, _, _, _, _, _, _, _, _ => none
  | k + 1, x1, x28, x29, x342000, x342001, x342002, x344000, x344001, x344002 => if x29 < x28 then (if x342000 = 0 then (none) else (if x1 = 0 then (impl_Boxes_reflected.j2 k x1 x29 (wrap64 ((wrap64 ((wrap64 ((wrap64 ((wrap64 (Int.tdiv x29 x342000)) * x342000)) + x342000)) - 1)) - (Int.tmod x29 x342000))) (([0, 1, 3, 2] : List Int)) x28 x29 x342000 x342001 x342002 x344000 x344001 x344002) else (if x1 = 1 then (impl_Boxes_reflected.j2 k x1 x29 (wrap64 ((wrap64 ((wrap64 ((wrap64 (x342001 - 1)) - (wrap64 (Int.tdiv x29 x342000)))) * x342000)) + (Int.tmod x29 x342000))) (([1, 0, 2, 3] : List Int)) x28 x29 x342000 x342001 x342002 x344000 x344001 x344002) else (if x1 = 2 then (impl_Boxes_reflected.j2 k x1 x29 (wrap64 ((wrap64 ((Int.tmod x29 x342000) * x344000)) + (wrap64 (Int.tdiv x29 x342000)))) (([2, 3, 0, 1] : List Int)) x28 x29 x342000 x342001 x342002 x344000 x344001 x344002) else (impl_Boxes_reflected.j2 k x1 x29 (wrap64 ((wrap64 ((wrap64 (Int.tdiv x29 x342000)) * x342000)) + (Int.tmod x29 x342000))) (([0, 1, 2, 3] : List Int)) x28 x29 x342000 x342001 x342002 x344000 x344001 x344002))))) else (some (x344000, x344001, x344002))
def impl_Boxes_reflected.j2 : Nat → Int → Int → Int → List Int → Int → Int → Int → Int → Int → Int → Int → Int → Option (Int × Int × Int)
  | 0, _, _, _, _, _, _, _, _, _, _, _, _ => none
  | k + 1, x1, x6, x9, x10, x28, x29, x342000, x342001, x342002, x344000, x344001, x344002 => (impl_Boxes_around.f x344000 x344001 x344002 x9).bind fun t357 => ((impl_Boxes_around.f x342000 x342001 x342002 x6).bind fun t360 => (impl_Boxes_reflected.l1 k x1 x10 t357 x28 x29 t360 (t360.length : Int) 0 x342000 x342001 x342002 x344000 x344001 x344002))
def impl_Boxes_reflected.l1 : Nat → Int → List Int → List Int → Int → Int → List Int → Int → Int → Int → Int → Int → Int → Int → Int → Option (Int × Int × Int)
  | 0, _, _, _, _, _, _, _, _, _, _, _, _, _, _ => none
  | k + 1, x1, x10, x11, x28, x29, x88, x89, x90, x342000, x342001, x342002, x344000, x344001, x344002 => if x90 < x89 then (if 0 ≤ x90 then (if x90 < (x88.length : Int) then ((impl_Boxes_has.f x342000 x342001 x342002 (rd x88 x90)).bind fun t364 => (if t364 = true then (if x90 < (x10.length : Int) then (if 0 ≤ (rd x10 x90) then (if (rd x10 x90) < (x11.length : Int) then (if 0 ≤ (rd x11 (rd x10 x90)) then (impl_Boxes_reflected.l1 k x1 x10 x11 x28 x29 x88 x89 (wrap64 (x90 + 1)) x342000 x342001 x342002 x344000 x344001 (Go.bits .or .i64 x344002 (shl .i64 1 (rd x11 (rd x10 x90))))) else (none)) else (none)) else (none)) else (none)) else (impl_Boxes_reflected.l1 k x1 x10 x11 x28 x29 x88 x89 (wrap64 (x90 + 1)) x342000 x342001 x342002 x344000 x344001 x344002))) else (none)) else (none)) else (impl_Boxes_reflected.l0 k x1 x28 (wrap64 (x29 + 1)) x342000 x342001 x342002 x344000 x344001 x344002)
end
def impl_Boxes_reflected.f (k : Nat) (a0_0 : Int) (a0_1 : Int) (a0_2 : Int) (a1 : Int) : Option (Int × Int × Int) := if a1 = 2 then (impl_Boxes_reflected.j0 k a1 a0_0 a0_1 a0_2 a0_1 a0_0 0) else (impl_Boxes_reflected.j0 k a1 a0_0 a0_1 a0_2 a0_0 a0_1 0)
theorem impl_Boxes_reflected.mono_l : ∀ k, (∀ y0 y1 y2 y3 y4 y5 y6, LeO (impl_Boxes_reflected.j0 k y0 y1 y2 y3 y4 y5 y6) (impl_Boxes_reflected.j0 (k + 1) y0 y1 y2 y3 y4 y5 y6)) ∧ (∀ y0 y1 y2 y3 y4 y5 y6 y7 y8, LeO (impl_Boxes_reflected.l0 k y0 y1 y2 y3 y4 y5 y6 y7 y8) (impl_Boxes_reflected.l0 (k + 1) y0 y1 y2 y3 y4 y5 y6 y7 y8)) ∧ (∀ y0 y1 y2 y3 y4 y5 y6 y7 y8 y9 y10 y11, LeO (impl_Boxes_reflected.j2 k y0 y1 y2 y3 y4 y5 y6 y7 y8 y9 y10 y11) (impl_Boxes_reflected.j2 (k + 1) y0 y1 y2 y3 y4 y5 y6 y7 y8 y9 y10 y11)) ∧ (∀ y0 y1 y2 y3 y4 y5 y6 y7 y8 y9 y10 y11 y12 y13, LeO (impl_Boxes_reflected.l1 k y0 y1 y2 y3 y4 y5 y6 y7 y8 y9 y10 y11 y12 y13) (impl_Boxes_reflected.l1 (k + 1) y0 y1 y2 y3 y4 y5 y6 y7 y8 y9 y10 y11 y12 y13))
  | 0 => ⟨fun _ _ _ _ _ _ _ r h => by simp [impl_Boxes_reflected.j0] at h, fun _ _ _ _ _ _ _ _ _ r h => by simp [impl_Boxes_reflected.l0] at h, fun _ _ _ _ _ _ _ _ _ _ _ _ r h => by simp [impl_Boxes_reflected.j2] at h, fun _ _ _ _ _ _ _ _ _ _ _ _ _ _ r h => by simp [impl_Boxes_reflected.l1] at h⟩
  | k + 1 => by
    obtain ⟨ih0, ih1, ih2, ih3⟩ := impl_Boxes_reflected.mono_l k
    refine ⟨?_, ?_, ?_, ?_⟩
    · intro y0 y1 y2 y3 y4 y5 y6
      unfold impl_Boxes_reflected.j0
      repeat' first
      | (with_reducible exact ih0 _ _ _ _ _ _ _)
      | (with_reducible exact ih1 _ _ _ _ _ _ _ _ _)
      | (with_reducible exact ih2 _ _ _ _ _ _ _ _ _ _ _ _)
      | (with_reducible exact ih3 _ _ _ _ _ _ _ _ _ _ _ _ _ _)
      | (with_reducible exact LeO.refl _)
      | (with_reducible exact LeO.none _)
      | (with_reducible refine LeO.ite ?_ ?_)
      | (with_reducible refine LeO.bind ?_ (fun _ => ?_))
      | exact ih0 _ _ _ _ _ _ _
      | exact ih1 _ _ _ _ _ _ _ _ _
      | exact ih2 _ _ _ _ _ _ _ _ _ _ _ _
      | exact ih3 _ _ _ _ _ _ _ _ _ _ _ _ _ _
      | exact LeO.none _
      | refine LeO.ite ?_ ?_
      | refine LeO.bind ?_ (fun _ => ?_)
    · intro y0 y1 y2 y3 y4 y5 y6 y7 y8
      unfold impl_Boxes_reflected.l0
      repeat' first
      | (with_reducible exact ih0 _ _ _ _ _ _ _)
      | (with_reducible exact ih1 _ _ _ _ _ _ _ _ _)
      | (with_reducible exact ih2 _ _ _ _ _ _ _ _ _ _ _ _)
      | (with_reducible exact ih3 _ _ _ _ _ _ _ _ _ _ _ _ _ _)
      | (with_reducible exact LeO.refl _)
      | (with_reducible exact LeO.none _)
      | (with_reducible refine LeO.ite ?_ ?_)
      | (with_reducible refine LeO.bind ?_ (fun _ => ?_))
      | exact ih0 _ _ _ _ _ _ _
      | exact ih1 _ _ _ _ _ _ _ _ _
      | exact ih2 _ _ _ _ _ _ _ _ _ _ _ _
      | exact ih3 _ _ _ _ _ _ _ _ _ _ _ _ _ _
      | exact LeO.none _
      | refine LeO.ite ?_ ?_
      | refine LeO.bind ?_ (fun _ => ?_)
    · intro y0 y1 y2 y3 y4 y5 y6 y7 y8 y9 y10 y11
      unfold impl_Boxes_reflected.j2
      repeat' first
      | (with_reducible exact ih0 _ _ _ _ _ _ _)
      | (with_reducible exact ih1 _ _ _ _ _ _ _ _ _)
      | (with_reducible exact ih2 _ _ _ _ _ _ _ _ _ _ _ _)
      | (with_reducible exact ih3 _ _ _ _ _ _ _ _ _ _ _ _ _ _)
      | (with_reducible exact LeO.refl _)
      | (with_reducible exact LeO.none _)
      | (with_reducible refine LeO.ite ?_ ?_)
      | (with_reducible refine LeO.bind ?_ (fun _ => ?_))
      | exact ih0 _ _ _ _ _ _ _
      | exact ih1 _ _ _ _ _ _ _ _ _
      | exact ih2 _ _ _ _ _ _ _ _ _ _ _ _
      | exact ih3 _ _ _ _ _ _ _ _ _ _ _ _ _ _
      | exact LeO.none _
      | refine LeO.ite ?_ ?_
      | refine LeO.bind ?_ (fun _ => ?_)
    · intro y0 y1 y2 y3 y4 y5 y6 y7 y8 y9 y10 y11 y12 y13
      unfold impl_Boxes_reflected.l1
      repeat' first
      | (with_reducible exact ih0 _ _ _ _ _ _ _)
      | (with_reducible exact ih1 _ _ _ _ _ _ _ _ _)
      | (with_reducible exact ih2 _ _ _ _ _ _ _ _ _ _ _ _)
      | (with_reducible exact ih3 _ _ _ _ _ _ _ _ _ _ _ _ _ _)
      | (with_reducible exact LeO.refl _)
      | (with_reducible exact LeO.none _)
      | (with_reducible refine LeO.ite ?_ ?_)
      | (with_reducible refine LeO.bind ?_ (fun _ => ?_))
      | exact ih0 _ _ _ _ _ _ _
      | exact ih1 _ _ _ _ _ _ _ _ _
      | exact ih2 _ _ _ _ _ _ _ _ _ _ _ _
      | exact ih3 _ _ _ _ _ _ _ _ _ _ _ _ _ _
      | exact LeO.none _
      | refine LeO.ite ?_ ?_
      | refine LeO.bind ?_ (fun _ => ?_)
theorem impl_Boxes_reflected.mono : ∀ a0 a1 a2 a3 k, LeO (impl_Boxes_reflected.f k a0 a1 a2 a3) (impl_Boxes_reflected.f (k + 1) a0 a1 a2 a3) := by
  intro a0 a1 a2 a3 k
  obtain ⟨ih0, ih1, ih2, ih3⟩ := impl_Boxes_reflected.mono_l k
  unfold impl_Boxes_reflected.f
  repeat' first
      | (with_reducible exact ih0 _ _ _ _ _ _ _)
      | (with_reducible exact ih1 _ _ _ _ _ _ _ _ _)
      | (with_reducible exact ih2 _ _ _ _ _ _ _ _ _ _ _ _)
      | (with_reducible exact ih3 _ _ _ _ _ _ _ _ _ _ _ _ _ _)
      | (with_reducible exact LeO.refl _)
      | (with_reducible exact LeO.none _)
      | (with_reducible refine LeO.ite ?_ ?_)
      | (with_reducible refine LeO.bind ?_ (fun _ => ?_))
      | exact ih0 _ _ _ _ _ _ _
      | exact ih1 _ _ _ _ _ _ _ _ _
      | exact ih2 _ _ _ _ _ _ _ _ _ _ _ _
      | exact ih3 _ _ _ _ _ _ _ _ _ _ _ _ _ _
      | exact LeO.none _
      | refine LeO.ite ?_ ?_
      | refine LeO.bind ?_ (fun _ => ?_)
def impl_Boxes_reflected.T3 : Bool × List (List Nat × List Nat) := (true, [([], []), ([0], [0]), ([], []), ([2], [2]), ([0, 1], []), ([4, 1, 0, 1], [1, 4]), ([0, 1, 2, 3, 4, 5], []), ([6, 3, 5, 0, 1, 2, 3, 4, 5], [3, 6])])
def impl_Boxes_reflected.B3 : List Nat := [0, 1, 0, 4, 3, 19, 63, 127]
theorem impl_Boxes_reflected.tab3 : rtab .any (opsOf Try.f35 3) = impl_Boxes_reflected.T3 := by kernel_rfl
theorem impl_Boxes_reflected.bits3 : waitsOk impl_Boxes_reflected.T3.2 impl_Boxes_reflected.B3 = true := by kernel_rfl
def impl_Boxes_reflected.T7 : Bool × List (List Nat × List Nat) := (true, [([], []), ([], []), ([1], [1]), ([0, 2], [0, 2]), ([], []), ([], []), ([5], [5]), ([4, 6], [4, 6]), ([3, 0, 1, 2, 3], [3]), ([7, 8, 0, 1, 2, 3, 4, 5, 6, 7, 8], [7])])
def impl_Boxes_reflected.B7 : List Nat := [0, 0, 2, 7, 0, 0, 32, 112, 15, 511]
theorem impl_Boxes_reflected.tab7 : rtab .any (opsOf Try.f35 7) = impl_Boxes_reflected.T7 := by kernel_rfl
theorem impl_Boxes_reflected.bits7 : waitsOk impl_Boxes_reflected.T7.2 impl_Boxes_reflected.B7 = true := by kernel_rfl
def impl_Boxes_reflected.T21 : Bool × List (List Nat × List Nat) := (true, [([], []), ([0], [0]), ([], []), ([], []), ([], []), ([3, 4], [3, 4]), ([5], [5]), ([2, 6], [2, 6]), ([7], [7]), ([8], [8]), ([1, 9], [1, 9]), ([0, 1, 2, 3, 4, 5, 6, 7, 8, 9, 10], []), ([11, 10, 0, 1, 2, 3, 4, 5, 6, 7, 8, 9, 10], [10, 11])])
def impl_Boxes_reflected.B21 : List Nat := [0, 1, 0, 0, 0, 24, 56, 124, 252, 508, 1023, 2047, 4095]
theorem impl_Boxes_reflected.tab21 : rtab .any (opsOf Try.f35 21) = impl_Boxes_reflected.T21 := by kernel_rfl
theorem impl_Boxes_reflected.bits21 : waitsOk impl_Boxes_reflected.T21.2 impl_Boxes_reflected.B21 = true := by kernel_rfl
set_option maxHeartbeats 8000000 in
set_option maxRecDepth 100000 in
theorem impl_Boxes_reflected.calls (k : Nat) (a0_0 : Int) (a0_1 : Int) (a0_2 : Int) (a1 : Int) (r1 : Int) (r2 : Int) (r3 : Int) (w : World) (h : impl_Boxes_reflected.f k a0_0 a0_1 a0_2 a1 = some (r1, r2, r3)) :
    Calls Try.prog 35 #[.agg #[.int .i64 a0_0, .int .i64 a0_1, .int .i64 a0_2], .int .i64 a1] w fun e w' => e = .returned (.agg #[.int .i64 r1, .int .i64 r2, .int .i64 r3]) ∧ Below w.heap.size w w' := by
  have hu25 := Try.underlying25
  have HB := Aside0.mk (Below.refl w.heap.size w)
  have H : (if a1 = 2 then (impl_Boxes_reflected.j0 k a1 a0_0 a0_1 a0_2 a0_1 a0_0 0) else (impl_Boxes_reflected.j0 k a1 a0_0 a0_1 a0_2 a0_0 a0_1 0)) = some (r1, r2, r3) := h
  clear h
  have HC3 := Aside0.mk H
  clear H
  go_enter Try.func35, Try.ntmps35
  go_upto_if 20 with (first | ((with_reducible refine gate_dst (N := 2) rfl ?_); refine zX 2 #[.int .i64 a0_0, .int .i64 a0_1, .int .i64 a0_2] 25 ?_; intro gb341 hg w4 hbox hb; refine zA4 (below_step (zH HB.out) hb) (hbox) ((zS hg (below_size (zH HB.out)) : w.heap.size ≤ gb341)) ((zS hg (below_size (zH HB.out)) : w.heap.size ≤ gb341)) ?_; clear HB; intro HB BK341 GW341 GE341; clear hb hbox hg) | ((with_reducible refine gate_dst (N := 4) rfl ?_); refine zX 4 #[.int .i64 0, .int .i64 0, .int .i64 0] 25 ?_; intro gb342 hg w5 hbox hb; refine zA7 (blk_below (g := gb341) (o := .cells #[.int .i64 a0_0, .int .i64 a0_1, .int .i64 a0_2] 25 (0, 0)) (zB BK341.out) hb) (below_step (zH1 HB.out GE341.out) hb) (hbox) ((zS hg (below_size (zH1 HB.out GE341.out)) : w.heap.size ≤ gb342)) ((zS hg (below_size (zH1 HB.out GE341.out)) : w.heap.size ≤ gb342)) ((zl hg (blk_lt (g := gb341) (o := .cells #[.int .i64 a0_0, .int .i64 a0_1, .int .i64 a0_2] 25 (0, 0)) (zB BK341.out)) : gb341 ≠ gb342)) ((zg hg (blk_lt (g := gb341) (o := .cells #[.int .i64 a0_0, .int .i64 a0_1, .int .i64 a0_2] 25 (0, 0)) (zB BK341.out)) : gb342 ≠ gb341)) ?_; clear BK341 HB; intro BK341 HB BK342 GW342 GE342 NB341_342 NB342_341; clear hb hbox hg; have hnb6 := NB341_342.out; have hnc6 := NB342_341.out; obtain ⟨hcz7_0, hcz7_1, hcz7_2⟩ := zc3 BK341; obtain ⟨hfz7_0, hfz7_1, hfz7_2⟩ := zf3 BK341) | ((with_reducible refine gate_dst (N := 5) rfl ?_); refine zX 5 #[.int .i64 0, .int .i64 0, .int .i64 0] 25 ?_; intro gb343 hg w8 hbox hb; refine zA10 (blk_below (g := gb341) (o := .cells #[.int .i64 a0_0, .int .i64 a0_1, .int .i64 a0_2] 25 (0, 0)) (zB BK341.out) hb) (blk_below (g := gb342) (o := .cells #[.int .i64 0, .int .i64 0, .int .i64 0] 25 (0, 0)) (zB BK342.out) hb) (below_step (zH2 HB.out GE341.out GE342.out) hb) (hbox) ((zS hg (below_size (zH2 HB.out GE341.out GE342.out)) : w.heap.size ≤ gb343)) ((zS hg (below_size (zH2 HB.out GE341.out GE342.out)) : w.heap.size ≤ gb343)) ((zl hg (blk_lt (g := gb341) (o := .cells #[.int .i64 a0_0, .int .i64 a0_1, .int .i64 a0_2] 25 (0, 0)) (zB BK341.out)) : gb341 ≠ gb343)) ((zg hg (blk_lt (g := gb341) (o := .cells #[.int .i64 a0_0, .int .i64 a0_1, .int .i64 a0_2] 25 (0, 0)) (zB BK341.out)) : gb343 ≠ gb341)) ((zl hg (blk_lt (g := gb342) (o := .cells #[.int .i64 0, .int .i64 0, .int .i64 0] 25 (0, 0)) (zB BK342.out)) : gb342 ≠ gb343)) ((zg hg (blk_lt (g := gb342) (o := .cells #[.int .i64 0, .int .i64 0, .int .i64 0] 25 (0, 0)) (zB BK342.out)) : gb343 ≠ gb342)) ?_; clear BK341 BK342 HB; intro BK341 BK342 HB BK343 GW343 GE343 NB341_343 NB343_341 NB342_343 NB343_342; clear hb hbox hg; have hnb9 := NB343_341.out; have hnc9 := NB341_343.out; have hnb10 := NB343_342.out; have hnc10 := NB342_343.out; obtain ⟨hcz11_0, hcz11_1, hcz11_2⟩ := zc3 BK343; obtain ⟨hfz11_0, hfz11_1, hfz11_2⟩ := zf3 BK343))
  (try simp only [Act.put, List.setIfInBounds_toArray, List.set_cons_zero, List.set_cons_succ])
  go_cut [] (fun wc => ∃ (kq : Nat) (x344000_2 : Int) (x344001_2 : Int), Aside0 (impl_Boxes_reflected.j0 kq a1 a0_0 a0_1 a0_2 x344000_2 x344001_2 0 = some (r1, r2, r3)) ∧ Aside0 (kq ≤ k) ∧ Aside0 (wc.heap[gb341]? = some (.cells #[.int .i64 a0_0, .int .i64 a0_1, .int .i64 a0_2] 25 (0, 0))) ∧ Aside0 (wc.heap[gb342]? = some (.cells #[.int .i64 0, .int .i64 0, .int .i64 0] 25 (0, 0))) ∧ Aside0 (wc.heap[gb343]? = some (.cells #[.int .i64 x344000_2, .int .i64 x344001_2, .int .i64 0] 25 (0, 0))) ∧ Aside0 (Below w.heap.size w wc))
  case first =>
    have H := HC3.out
    clear HC3
    by_cases c12 : a1 = 2
    · rw [if_pos c12] at H
      have c12b0 := zq1 c12
      have c12b1 := zq2 c12
      clear c12
      (first | rw [c12b0] | (simp only [i64_w, i32_w]; rw [c12b0]) | skip)
      have H' := Aside0.mk H
      clear H
      try go_wp2
      have n0_ : Aside0 ((((w8.setCell ⟨gb343, 0, none⟩ (.int .i64 a0_0)).setCell ⟨gb343, 1, none⟩ (.int .i64 a0_1)).setCell ⟨gb343, 2, none⟩ (.int .i64 0)).heap[gb341]? = some (.cells #[.int .i64 a0_0, .int .i64 a0_1, .int .i64 a0_2] 25 (0, 0))) := ⟨by (with_reducible repeat (first | refine blk_drewN ?_ _ | refine blk_drew ?_ | refine blk_alloc ?_ _)); refine blk_far ?_ NB341_343.out _; (with_reducible repeat (first | refine blk_drewN ?_ _ | refine blk_drew ?_ | refine blk_alloc ?_ _)); refine blk_far ?_ NB341_343.out _; (with_reducible repeat (first | refine blk_drewN ?_ _ | refine blk_drew ?_ | refine blk_alloc ?_ _)); refine blk_far ?_ NB341_343.out _; (with_reducible repeat (first | refine blk_drewN ?_ _ | refine blk_drew ?_ | refine blk_alloc ?_ _)); exact BK341.out⟩
      have n1_ : Aside0 ((((w8.setCell ⟨gb343, 0, none⟩ (.int .i64 a0_0)).setCell ⟨gb343, 1, none⟩ (.int .i64 a0_1)).setCell ⟨gb343, 2, none⟩ (.int .i64 0)).heap[gb342]? = some (.cells #[.int .i64 0, .int .i64 0, .int .i64 0] 25 (0, 0))) := ⟨by (with_reducible repeat (first | refine blk_drewN ?_ _ | refine blk_drew ?_ | refine blk_alloc ?_ _)); refine blk_far ?_ NB342_343.out _; (with_reducible repeat (first | refine blk_drewN ?_ _ | refine blk_drew ?_ | refine blk_alloc ?_ _)); refine blk_far ?_ NB342_343.out _; (with_reducible repeat (first | refine blk_drewN ?_ _ | refine blk_drew ?_ | refine blk_alloc ?_ _)); refine blk_far ?_ NB342_343.out _; (with_reducible repeat (first | refine blk_drewN ?_ _ | refine blk_drew ?_ | refine blk_alloc ?_ _)); exact BK342.out⟩
      have n2_ : Aside0 ((((w8.setCell ⟨gb343, 0, none⟩ (.int .i64 a0_0)).setCell ⟨gb343, 1, none⟩ (.int .i64 a0_1)).setCell ⟨gb343, 2, none⟩ (.int .i64 0)).heap[gb343]? = some (.cells #[.int .i64 a0_0, .int .i64 a0_1, .int .i64 0] 25 (0, 0))) := ⟨by (with_reducible repeat (first | refine blk_drewN ?_ _ | refine blk_drew ?_ | refine blk_alloc ?_ _)); refine blk_put (cs := #[.int .i64 a0_0, .int .i64 a0_1, .int .i64 0]) ?_ 2 _ rfl; (with_reducible repeat (first | refine blk_drewN ?_ _ | refine blk_drew ?_ | refine blk_alloc ?_ _)); refine blk_put (cs := #[.int .i64 a0_0, .int .i64 0, .int .i64 0]) ?_ 1 _ rfl; (with_reducible repeat (first | refine blk_drewN ?_ _ | refine blk_drew ?_ | refine blk_alloc ?_ _)); refine blk_put (cs := #[.int .i64 0, .int .i64 0, .int .i64 0]) ?_ 0 _ rfl; (with_reducible repeat (first | refine blk_drewN ?_ _ | refine blk_drew ?_ | refine blk_alloc ?_ _)); exact BK343.out⟩
      have n3_ : Aside0 (Below w.heap.size w (((w8.setCell ⟨gb343, 0, none⟩ (.int .i64 a0_0)).setCell ⟨gb343, 1, none⟩ (.int .i64 a0_1)).setCell ⟨gb343, 2, none⟩ (.int .i64 0))) := ⟨zH3 HB.out GE341.out GE342.out GE343.out⟩
      (try clear BK341)
      (try clear BK342)
      (try clear BK343)
      (try clear HB)
      generalize (((w8.setCell ⟨gb343, 0, none⟩ (.int .i64 a0_0)).setCell ⟨gb343, 1, none⟩ (.int .i64 a0_1)).setCell ⟨gb343, 2, none⟩ (.int .i64 0)) = w13 at n0_ n1_ n2_ n3_ ⊢
      have BK341 := n0_
      have BK342 := n1_
      have BK343 := n2_
      have HB := n3_
      clear n0_ n1_ n2_ n3_
      refine zA4 (blk_drew BK341.out) (blk_drew BK342.out) (blk_drew BK343.out) (below_drew1 HB.out) ?_
      clear BK341 BK342 BK343 HB
      intro BK341 BK342 BK343 HB
      refine start_ (n := 8) (S := fun w' => w'.cell? ⟨gb341, 0, none⟩ = some (.int .i64 a0_0) ∧ w'.cell? ⟨gb341, 1, none⟩ = some (.int .i64 a0_1) ∧ w'.cell? ⟨gb341, 2, none⟩ = some (.int .i64 a0_2)) (ds := []) #[false, false, false, false, false, false, false, false] (by kernel_rfl) rfl rfl ⟨(blk_cell BK341.out 0).trans rfl, (blk_cell BK341.out 1).trans rfl, (blk_cell BK341.out 2).trans rfl⟩ (fun hHeld => ?_); refine with_tabW impl_Boxes_reflected.tab3 impl_Boxes_reflected.bits3 (fun HT_ HW_ => ?_)
      generalize w13.drew = w14 at BK341 BK342 BK343 HB hHeld ⊢
      refine zP HT_ 0 (some 21) rfl rfl ?_
      refine zP HT_ 2 (some 23) rfl rfl ?_
      refine zT HT_ HW_ hHeld 1 (some 22) rfl rfl ?_
      refine zP HT_ 4 (some 25) rfl rfl ?_
      refine zT HT_ HW_ hHeld 3 (some 24) rfl rfl ?_
      refine one_ (i := 5) (N := none) #[true, true, true, true, true, true, false, false] rfl rfl (one_of HT_.out (by kernel_rfl)) (by decide) (fun K hK => ?_)
      have hs15 : w14.cell? ⟨gb343, 0, none⟩ = some (.int .i64 a0_0) := (blk_cell BK343.out 0).trans rfl
      have hfs15 := blk_frozen BK343.out 0
      have hns15_0 := NB341_343.out
      have hns15_1 := NB342_343.out
      have hms15_0 := NB343_341.out
      have hms15_1 := NB343_342.out
      refine skip_ (w1 := ?_) (by rfl) rfl ?_ ?_
      rotate_left
      · go_simp
        rfl
      refine hK.out _ _ ⟨((cell_far (p := ⟨gb343, _, none⟩) NB341_343.out _).trans (hHeld.1)), ((cell_far (p := ⟨gb343, _, none⟩) NB341_343.out _).trans (hHeld.2.1)), ((cell_far (p := ⟨gb343, _, none⟩) NB341_343.out _).trans (hHeld.2.2))⟩ (fun hHeld => ?_)
      clear hK K
      refine zP HT_ 6 (some 26) rfl rfl ?_
      refine one_ (i := 7) (N := none) #[true, true, true, true, true, true, true, true] rfl rfl (one_of HT_.out (by kernel_rfl)) (by decide) (fun K hK => ?_)
      have hs16 : w14.cell? ⟨gb343, 1, none⟩ = some (.int .i64 a0_1) := (blk_cell BK343.out 1).trans rfl
      have hfs16 := blk_frozen BK343.out 1
      have hns16_0 := NB341_343.out
      have hns16_1 := NB342_343.out
      have hms16_0 := NB343_341.out
      have hms16_1 := NB343_342.out
      refine skip_ (w1 := ?_) (by rfl) rfl ?_ ?_
      rotate_left
      · go_simp
        rfl
      refine hK.out _ _ ⟨((cell_far (p := ⟨gb343, _, none⟩) NB341_343.out _).trans (hHeld.1)), ((cell_far (p := ⟨gb343, _, none⟩) NB341_343.out _).trans (hHeld.2.1)), ((cell_far (p := ⟨gb343, _, none⟩) NB341_343.out _).trans (hHeld.2.2))⟩ (fun hHeld => ?_)
      clear hK K
      refine done_ (done_of HT_.out (by kernel_rfl)) ?_
      try go_wp2
      go_meet
      case rel => exact ⟨_, (a0_1), (a0_0), H', ⟨by first | omega | exact Nat.le_refl _⟩, ⟨by (with_reducible repeat (first | refine blk_drewN ?_ _ | refine blk_drew ?_ | refine blk_alloc ?_ _)); refine blk_far ?_ NB341_343.out _; (with_reducible repeat (first | refine blk_drewN ?_ _ | refine blk_drew ?_ | refine blk_alloc ?_ _)); refine blk_far ?_ NB341_343.out _; (with_reducible repeat (first | refine blk_drewN ?_ _ | refine blk_drew ?_ | refine blk_alloc ?_ _)); exact BK341.out⟩, ⟨by (with_reducible repeat (first | refine blk_drewN ?_ _ | refine blk_drew ?_ | refine blk_alloc ?_ _)); refine blk_far ?_ NB342_343.out _; (with_reducible repeat (first | refine blk_drewN ?_ _ | refine blk_drew ?_ | refine blk_alloc ?_ _)); refine blk_far ?_ NB342_343.out _; (with_reducible repeat (first | refine blk_drewN ?_ _ | refine blk_drew ?_ | refine blk_alloc ?_ _)); exact BK342.out⟩, ⟨by (with_reducible repeat (first | refine blk_drewN ?_ _ | refine blk_drew ?_ | refine blk_alloc ?_ _)); refine blk_put (cs := #[.int .i64 a0_1, .int .i64 a0_1, .int .i64 0]) ?_ 1 _ rfl; (with_reducible repeat (first | refine blk_drewN ?_ _ | refine blk_drew ?_ | refine blk_alloc ?_ _)); refine blk_put (cs := #[.int .i64 a0_0, .int .i64 a0_1, .int .i64 0]) ?_ 0 _ rfl; (with_reducible repeat (first | refine blk_drewN ?_ _ | refine blk_drew ?_ | refine blk_alloc ?_ _)); exact BK343.out⟩, ⟨zH3 HB.out GE341.out GE342.out GE343.out⟩⟩
    · rw [if_neg c12] at H
      have c12b0 := zq3 c12
      have c12b1 := zq4 c12
      (first | rw [c12b0] | (simp only [i64_w, i32_w]; rw [c12b0]) | skip)
      have H' := Aside0.mk H
      clear H
      go_wp2
      go_meet
      case rel => exact ⟨_, (a0_0), (a0_1), H', ⟨by first | omega | exact Nat.le_refl _⟩, ⟨by (with_reducible repeat (first | refine blk_drewN ?_ _ | refine blk_drew ?_ | refine blk_alloc ?_ _)); refine blk_far ?_ NB341_343.out _; (with_reducible repeat (first | refine blk_drewN ?_ _ | refine blk_drew ?_ | refine blk_alloc ?_ _)); refine blk_far ?_ NB341_343.out _; (with_reducible repeat (first | refine blk_drewN ?_ _ | refine blk_drew ?_ | refine blk_alloc ?_ _)); refine blk_far ?_ NB341_343.out _; (with_reducible repeat (first | refine blk_drewN ?_ _ | refine blk_drew ?_ | refine blk_alloc ?_ _)); exact BK341.out⟩, ⟨by (with_reducible repeat (first | refine blk_drewN ?_ _ | refine blk_drew ?_ | refine blk_alloc ?_ _)); refine blk_far ?_ NB342_343.out _; (with_reducible repeat (first | refine blk_drewN ?_ _ | refine blk_drew ?_ | refine blk_alloc ?_ _)); refine blk_far ?_ NB342_343.out _; (with_reducible repeat (first | refine blk_drewN ?_ _ | refine blk_drew ?_ | refine blk_alloc ?_ _)); refine blk_far ?_ NB342_343.out _; (with_reducible repeat (first | refine blk_drewN ?_ _ | refine blk_drew ?_ | refine blk_alloc ?_ _)); exact BK342.out⟩, ⟨by (with_reducible repeat (first | refine blk_drewN ?_ _ | refine blk_drew ?_ | refine blk_alloc ?_ _)); refine blk_put (cs := #[.int .i64 a0_0, .int .i64 a0_1, .int .i64 0]) ?_ 2 _ rfl; (with_reducible repeat (first | refine blk_drewN ?_ _ | refine blk_drew ?_ | refine blk_alloc ?_ _)); refine blk_put (cs := #[.int .i64 a0_0, .int .i64 0, .int .i64 0]) ?_ 1 _ rfl; (with_reducible repeat (first | refine blk_drewN ?_ _ | refine blk_drew ?_ | refine blk_alloc ?_ _)); refine blk_put (cs := #[.int .i64 0, .int .i64 0, .int .i64 0]) ?_ 0 _ rfl; (with_reducible repeat (first | refine blk_drewN ?_ _ | refine blk_drew ?_ | refine blk_alloc ?_ _)); exact BK343.out⟩, ⟨zH3 HB.out GE341.out GE342.out GE343.out⟩⟩
  case rest =>
    clear HC3
    try clear c1
    try clear p2
    try clear c3
    try clear c6
    try clear c9
    try clear c10
    try clear c12
    try clear c12b0
    try clear c12b1
    try clear hcz11_0
    try clear hcz11_1
    try clear hcz11_2
    try clear hcz7_0
    try clear hcz7_1
    try clear hcz7_2
    try clear hfz11_0
    try clear hfz11_1
    try clear hfz11_2
    try clear hfz7_0
    try clear hfz7_1
    try clear hfz7_2
    obtain ⟨kq, x344000_2, x344001_2, HA, HJ2, BK341, BK342, BK343, HB⟩ := hcut
    cases kq with
    | zero => exact absurd HA.out (by simp [impl_Boxes_reflected.j0])
    | succ kj2 =>
      have H := HA.out
      clear HA
      simp only [impl_Boxes_reflected.j0] at H
      obtain ⟨t344, A17, H⟩ := zb H
      have H' := Aside0.mk H
      clear H
      have hnb18 := NB341_342.out
      have hnc18 := NB342_341.out
      have hnb19 := NB341_343.out
      have hnc19 := NB343_341.out
      obtain ⟨hcz20_0, hcz20_1, hcz20_2⟩ := zc3 BK341
      obtain ⟨hfz20_0, hfz20_1, hfz20_2⟩ := zf3 BK341
      go_wp2_with (first | ((with_reducible refine gate_callee (f := 61) rfl ?_); refine goesL_ (some 28) rfl rfl Try.func61 (by kernel_rfl) rfl #[.agg #[.int .i64 a0_0, .int .i64 a0_1, .int .i64 a0_2]] rfl zM ?_; (with_reducible refine (impl_Boxes_boxes.calls a0_0 a0_1 a0_2 t344 _ A17.out).mono ?_); rintro e w21 ⟨rfl, hb⟩; refine ⟨_, rfl, ?_⟩; refine zA4 (blk_below (g := gb341) (o := .cells #[.int .i64 a0_0, .int .i64 a0_1, .int .i64 a0_2] 25 (0, 0)) (zB BK341.out) hb) (blk_below (g := gb342) (o := .cells #[.int .i64 0, .int .i64 0, .int .i64 0] 25 (0, 0)) (zB BK342.out) hb) (blk_below (g := gb343) (o := .cells #[.int .i64 x344000_2, .int .i64 x344001_2, .int .i64 0] 25 (0, 0)) (zB BK343.out) hb) (below_step (zH3 HB.out GE341.out GE342.out GE343.out) hb) ?_; clear BK341 BK342 BK343 HB; intro BK341 BK342 BK343 HB; (try clear hb); (try clear hb2); (try clear hk); (try clear hi)))
      go_loopg [29] kj2 (fun kq v29 w' => ∃ (x29_2 : Int) (x344002_2 : Int), v29 = .int .i64 x29_2 ∧ Aside0 (impl_Boxes_reflected.l0 kq a1 t344 x29_2 a0_0 a0_1 a0_2 x344000_2 x344001_2 x344002_2 = some (r1, r2, r3)) ∧ Aside0 (kq ≤ kj2) ∧ Aside0 (w'.heap[gb341]? = some (.cells #[.int .i64 a0_0, .int .i64 a0_1, .int .i64 a0_2] 25 (0, 0))) ∧ Aside0 (w'.heap[gb342]? = some (.cells #[.int .i64 0, .int .i64 0, .int .i64 0] 25 (0, 0))) ∧ Aside0 (w'.heap[gb343]? = some (.cells #[.int .i64 x344000_2, .int .i64 x344001_2, .int .i64 x344002_2] 25 (0, 0))) ∧ Aside0 (Below w.heap.size w w'))
      case atStart => exact ⟨(0), (0), (zF), H', ⟨Nat.le_refl _⟩, ⟨zB BK341.out⟩, ⟨zB BK342.out⟩, ⟨zB BK343.out⟩, ⟨zH3 HB.out GE341.out GE342.out GE343.out⟩⟩
      case round =>
        clear H'
        try clear c1
        try clear p2
        try clear c3
        try clear c6
        try clear c9
        try clear c10
        try clear c12
        try clear c12b0
        try clear c12b1
        try clear c18
        try clear c19
        try clear hcz11_0
        try clear hcz11_1
        try clear hcz11_2
        try clear hcz20_0
        try clear hcz20_1
        try clear hcz20_2
        try clear hcz7_0
        try clear hcz7_1
        try clear hcz7_2
        try clear hfz11_0
        try clear hfz11_1
        try clear hfz11_2
        try clear hfz20_0
        try clear hfz20_1
        try clear hfz20_2
        try clear hfz7_0
        try clear hfz7_1
        try clear hfz7_2
        try clear p2
        obtain ⟨x29_2, x344002_2, rfl, HA, HK2, BK341, BK342, BK343, HB⟩ := hrel
        cases gk with
        | zero => exact absurd HA.out (by simp [impl_Boxes_reflected.l0])
        | succ k2 =>
          have H := HA.out
          clear HA
          simp only [impl_Boxes_reflected.l0] at H
          by_cases c22 : x29_2 < t344
          · rw [if_pos c22] at H
            have c22b0 := decide_eq_true c22
            clear c22
            by_cases c23 : a0_0 = 0
            · rw [if_pos c23] at H
              exact absurd H (by simp)
            · rw [if_neg c23] at H
              have c23b0 := zq3 c23
              have c23b1 := zq4 c23
              obtain ⟨y345, hy345⟩ : ∃ y_ : List Int, y_ = (([0, 1, 2, 3] : List Int)) := ⟨_, rfl⟩
              replace H : (if a1 = 0 then (impl_Boxes_reflected.j2 k2 a1 x29_2 (wrap64 ((wrap64 ((wrap64 ((wrap64 ((wrap64 (Int.tdiv x29_2 a0_0)) * a0_0)) + a0_0)) - 1)) - (Int.tmod x29_2 a0_0))) (([0, 1, 3, 2] : List Int)) t344 x29_2 a0_0 a0_1 a0_2 x344000_2 x344001_2 x344002_2) else (if a1 = 1 then (impl_Boxes_reflected.j2 k2 a1 x29_2 (wrap64 ((wrap64 ((wrap64 ((wrap64 (a0_1 - 1)) - (wrap64 (Int.tdiv x29_2 a0_0)))) * a0_0)) + (Int.tmod x29_2 a0_0))) (([1, 0, 2, 3] : List Int)) t344 x29_2 a0_0 a0_1 a0_2 x344000_2 x344001_2 x344002_2) else (if a1 = 2 then (impl_Boxes_reflected.j2 k2 a1 x29_2 (wrap64 ((wrap64 ((Int.tmod x29_2 a0_0) * x344000_2)) + (wrap64 (Int.tdiv x29_2 a0_0)))) (([2, 3, 0, 1] : List Int)) t344 x29_2 a0_0 a0_1 a0_2 x344000_2 x344001_2 x344002_2) else (impl_Boxes_reflected.j2 k2 a1 x29_2 (wrap64 ((wrap64 ((wrap64 (Int.tdiv x29_2 a0_0)) * a0_0)) + (Int.tmod x29_2 a0_0))) y345 t344 x29_2 a0_0 a0_1 a0_2 x344000_2 x344001_2 x344002_2)))) = some (r1, r2, r3) := by first | (rw [hy345]; with_reducible exact H) | (have H2_ := (Option.bind_some _ _).symm.trans H; rw [hy345]; with_reducible exact H2_) | (have H2_ := (Option.bind_some _ _).symm.trans H; with_reducible exact H2_) | with_reducible exact H | (rw [hy345]; exact H) | exact H
              have Ny345 := Aside0.mk hy345
              clear hy345
              have HC24 := Aside0.mk H
              clear H
              try go_wp2
              refine zA4 (blk_drew BK341.out) (blk_drew BK342.out) (blk_drew BK343.out) (below_drew1 HB.out) ?_
              clear BK341 BK342 BK343 HB
              intro BK341 BK342 BK343 HB
              refine start_ (n := 10) (S := fun w' => w'.cell? ⟨gb341, 0, none⟩ = some (.int .i64 a0_0) ∧ w'.cell? ⟨gb341, 1, none⟩ = some (.int .i64 a0_1) ∧ w'.cell? ⟨gb341, 2, none⟩ = some (.int .i64 a0_2)) (ds := []) #[false, false, false, false, false, false, false, false, false, false] (by kernel_rfl) rfl rfl ⟨(blk_cell BK341.out 0).trans rfl, (blk_cell BK341.out 1).trans rfl, (blk_cell BK341.out 2).trans rfl⟩ (fun hHeld => ?_); refine with_tabW impl_Boxes_reflected.tab7 impl_Boxes_reflected.bits7 (fun HT_ HW_ => ?_)
              generalize wr.drew = w25 at BK341 BK342 BK343 HB hHeld ⊢
              refine zP HT_ 0 (some 32) rfl rfl ?_
              refine zP HT_ 1 (some 33) rfl rfl ?_
              refine zP HT_ 4 (some 36) rfl rfl ?_
              refine zP HT_ 5 (some 37) rfl rfl ?_
              refine zT HT_ HW_ hHeld 2 (some 34) rfl rfl ?_
              refine zP HT_ 3 (some 35) rfl rfl ?_
              refine zP HT_ 8 (some 7) rfl rfl ?_
              refine zT HT_ HW_ hHeld 6 (some 38) rfl rfl ?_
              refine zP HT_ 7 (some 39) rfl rfl ?_
              refine zP HT_ 9 (some 8) rfl rfl ?_
              refine done_ (done_of HT_.out (by kernel_rfl)) ?_
              have hnb26 := NB341_342.out
              have hnc26 := NB342_341.out
              have hnb27 := NB341_343.out
              have hnc27 := NB343_341.out
              obtain ⟨hcz28_0, hcz28_1, hcz28_2⟩ := zc3 BK341
              obtain ⟨hfz28_0, hfz28_1, hfz28_2⟩ := zf3 BK341
              go_upto_block 2 with (first | ((with_reducible refine gate_dst (N := 46) rfl ?_); refine Kd.R_lit (Kd.int .i64) _ 3 ?hg (N := 46) ?hd (xs := ([0, 1, 2, 3] : List Int)) (inner := [.int .i64 0, .int .i64 1, .int .i64 2, .int .i64 3]) (ok := fun _ => True) (okp := fun _ => True) ?hr ?hp (fun _ hk => hk) trivial (Below.refl _ _) (Nat.le_refl _) (by simp) ?_; (case hd => rfl); (case hg => rfl); (case hr => first | (go_simp; done) | (go_simp; rfl)); (case hp => exact (Reps.one (show Kd.M (Kd.int .i64) _ _ _ 0 [.int .i64 0] from rfl) (Reps.one (show Kd.M (Kd.int .i64) _ _ _ 1 [.int .i64 1] from rfl) (Reps.one (show Kd.M (Kd.int .i64) _ _ _ 2 [.int .i64 2] from rfl) (Reps.one (show Kd.M (Kd.int .i64) _ _ _ 3 [.int .i64 3] from rfl) (Reps.none _ _)))))); intro v346 w29 ho30 hb hg_ hnew_; clear hg_ hnew_; (first | rw [← Ny345.out] at ho30 | (simp only [Int.reduceToNat] at ho30; rw [← Ny345.out] at ho30)); refine zA5 (Kd.R_lower ho30 (below_size (zH3 HB.out GE341.out GE342.out GE343.out))) (blk_below (g := gb341) (o := .cells #[.int .i64 a0_0, .int .i64 a0_1, .int .i64 a0_2] 25 (0, 0)) (zB BK341.out) hb) (blk_below (g := gb342) (o := .cells #[.int .i64 0, .int .i64 0, .int .i64 0] 25 (0, 0)) (zB BK342.out) hb) (blk_below (g := gb343) (o := .cells #[.int .i64 x344000_2, .int .i64 x344001_2, .int .i64 x344002_2] 25 (0, 0)) (zB BK343.out) hb) (below_step (zH3 HB.out GE341.out GE342.out GE343.out) hb) ?_; clear BK341 BK342 BK343 HB; intro HO347 BK341 BK342 BK343 HB; clear hb ho30))
              (try simp only [Act.put, List.setIfInBounds_toArray, List.set_cons_zero, List.set_cons_succ])
              go_cut [9, 10] (fun v9 v10 wc => ∃ (kq : Nat) (x9_23 : Int) (x10_23 : List Int), v9 = .int .i64 x9_23 ∧ Aside0 (impl_Boxes_reflected.j2 kq a1 x29_2 x9_23 x10_23 t344 x29_2 a0_0 a0_1 a0_2 x344000_2 x344001_2 x344002_2 = some (r1, r2, r3)) ∧ Aside0 (kq ≤ k2) ∧ Aside0 (Kd.R (Kd.int .i64) 3 wc w.heap.size (fun _ => True) v10 x10_23) ∧ Aside0 (wc.heap[gb341]? = some (.cells #[.int .i64 a0_0, .int .i64 a0_1, .int .i64 a0_2] 25 (0, 0))) ∧ Aside0 (wc.heap[gb342]? = some (.cells #[.int .i64 0, .int .i64 0, .int .i64 0] 25 (0, 0))) ∧ Aside0 (wc.heap[gb343]? = some (.cells #[.int .i64 x344000_2, .int .i64 x344001_2, .int .i64 x344002_2] 25 (0, 0))) ∧ Aside0 (Below w.heap.size w wc))
              case first =>
                have H := HC24.out
                clear HC24
                by_cases c31 : a1 = 0
                · rw [if_pos c31] at H
                  have c31b0 := zq1 c31
                  have c31b1 := zq2 c31
                  clear c31
                  (first | rw [c31b0] | (simp only [i64_w, i32_w]; rw [c31b0]) | skip)
                  obtain ⟨y348, hy348⟩ : ∃ y_ : List Int, y_ = (([0, 1, 3, 2] : List Int)) := ⟨_, rfl⟩
                  replace H : (impl_Boxes_reflected.j2 k2 a1 x29_2 (wrap64 ((wrap64 ((wrap64 ((wrap64 ((wrap64 (Int.tdiv x29_2 a0_0)) * a0_0)) + a0_0)) - 1)) - (Int.tmod x29_2 a0_0))) y348 t344 x29_2 a0_0 a0_1 a0_2 x344000_2 x344001_2 x344002_2) = some (r1, r2, r3) := by first | (rw [hy348]; with_reducible exact H) | (have H2_ := (Option.bind_some _ _).symm.trans H; rw [hy348]; with_reducible exact H2_) | (have H2_ := (Option.bind_some _ _).symm.trans H; with_reducible exact H2_) | with_reducible exact H | (rw [hy348]; exact H) | exact H
                  have Ny348 := Aside0.mk hy348
                  clear hy348
                  have H' := Aside0.mk H
                  clear H
                  have hnb32 := NB341_342.out
                  have hnc32 := NB342_341.out
                  have hnb33 := NB341_343.out
                  have hnc33 := NB343_341.out
                  obtain ⟨hcz34_0, hcz34_1, hcz34_2⟩ := zc3 BK341
                  obtain ⟨hfz34_0, hfz34_1, hfz34_2⟩ := zf3 BK341
                  go_wp2_with (first | ((with_reducible refine gate_dst (N := 60) rfl ?_); refine Kd.R_lit (Kd.int .i64) _ 3 ?hg (N := 60) ?hd (xs := ([0, 1, 3, 2] : List Int)) (inner := [.int .i64 0, .int .i64 1, .int .i64 3, .int .i64 2]) (ok := fun _ => True) (okp := fun _ => True) ?hr ?hp (fun _ hk => hk) trivial (Below.refl _ _) (Nat.le_refl _) (by simp) ?_; (case hd => rfl); (case hg => rfl); (case hr => first | (go_simp; done) | (go_simp; rfl)); (case hp => exact (Reps.one (show Kd.M (Kd.int .i64) _ _ _ 0 [.int .i64 0] from rfl) (Reps.one (show Kd.M (Kd.int .i64) _ _ _ 1 [.int .i64 1] from rfl) (Reps.one (show Kd.M (Kd.int .i64) _ _ _ 3 [.int .i64 3] from rfl) (Reps.one (show Kd.M (Kd.int .i64) _ _ _ 2 [.int .i64 2] from rfl) (Reps.none _ _)))))); intro v349 w35 ho36 hb hg_ hnew_; clear hg_ hnew_; (first | rw [← Ny348.out] at ho36 | (simp only [Int.reduceToNat] at ho36; rw [← Ny348.out] at ho36)); refine zA6 (Kd.R_elder' (zR HO347.out) (Kd.R_base ho36) hb) (Kd.R_lower (Kd.R_new' ho36 (Kd.R_lt (zR HO347.out))) (below_size (zH3 HB.out GE341.out GE342.out GE343.out))) (blk_below (g := gb341) (o := .cells #[.int .i64 a0_0, .int .i64 a0_1, .int .i64 a0_2] 25 (0, 0)) (zB BK341.out) hb) (blk_below (g := gb342) (o := .cells #[.int .i64 0, .int .i64 0, .int .i64 0] 25 (0, 0)) (zB BK342.out) hb) (blk_below (g := gb343) (o := .cells #[.int .i64 x344000_2, .int .i64 x344001_2, .int .i64 x344002_2] 25 (0, 0)) (zB BK343.out) hb) (below_step (zH3 HB.out GE341.out GE342.out GE343.out) hb) ?_; clear HO347 BK341 BK342 BK343 HB; intro HO347 HO350 BK341 BK342 BK343 HB; clear hb ho36))
                  go_meet
                  case rel => exact ⟨_, (wrap64 ((wrap64 ((wrap64 ((wrap64 ((wrap64 (Int.tdiv x29_2 a0_0)) * a0_0)) + a0_0)) - 1)) - (Int.tmod x29_2 a0_0))), (y348), (zF), H', ⟨by have := HJ2.out; have := HK2.out; first | omega | exact Nat.le_refl _⟩, ⟨zRm HO350.out (fun _ hk => trivial)⟩, ⟨zB BK341.out⟩, ⟨zB BK342.out⟩, ⟨zB BK343.out⟩, ⟨zH3 HB.out GE341.out GE342.out GE343.out⟩⟩
                · rw [if_neg c31] at H
                  have c31b0 := zq3 c31
                  have c31b1 := zq4 c31
                  (first | rw [c31b0] | (simp only [i64_w, i32_w]; rw [c31b0]) | skip)
                  by_cases c37 : a1 = 1
                  · rw [if_pos c37] at H
                    have c37b0 := zq1 c37
                    have c37b1 := zq2 c37
                    clear c37
                    obtain ⟨y351, hy351⟩ : ∃ y_ : List Int, y_ = (([1, 0, 2, 3] : List Int)) := ⟨_, rfl⟩
                    replace H : (impl_Boxes_reflected.j2 k2 a1 x29_2 (wrap64 ((wrap64 ((wrap64 ((wrap64 (a0_1 - 1)) - (wrap64 (Int.tdiv x29_2 a0_0)))) * a0_0)) + (Int.tmod x29_2 a0_0))) y351 t344 x29_2 a0_0 a0_1 a0_2 x344000_2 x344001_2 x344002_2) = some (r1, r2, r3) := by first | (rw [hy351]; with_reducible exact H) | (have H2_ := (Option.bind_some _ _).symm.trans H; rw [hy351]; with_reducible exact H2_) | (have H2_ := (Option.bind_some _ _).symm.trans H; with_reducible exact H2_) | with_reducible exact H | (rw [hy351]; exact H) | exact H
                    have Ny351 := Aside0.mk hy351
                    clear hy351
                    have H' := Aside0.mk H
                    clear H
                    have hnb38 := NB341_342.out
                    have hnc38 := NB342_341.out
                    have hnb39 := NB341_343.out
                    have hnc39 := NB343_341.out
                    obtain ⟨hcz40_0, hcz40_1, hcz40_2⟩ := zc3 BK341
                    obtain ⟨hfz40_0, hfz40_1, hfz40_2⟩ := zf3 BK341
                    go_wp2_with (first | ((with_reducible refine gate_dst (N := 73) rfl ?_); refine Kd.R_lit (Kd.int .i64) _ 3 ?hg (N := 73) ?hd (xs := ([1, 0, 2, 3] : List Int)) (inner := [.int .i64 1, .int .i64 0, .int .i64 2, .int .i64 3]) (ok := fun _ => True) (okp := fun _ => True) ?hr ?hp (fun _ hk => hk) trivial (Below.refl _ _) (Nat.le_refl _) (by simp) ?_; (case hd => rfl); (case hg => rfl); (case hr => first | (go_simp; done) | (go_simp; rfl)); (case hp => exact (Reps.one (show Kd.M (Kd.int .i64) _ _ _ 1 [.int .i64 1] from rfl) (Reps.one (show Kd.M (Kd.int .i64) _ _ _ 0 [.int .i64 0] from rfl) (Reps.one (show Kd.M (Kd.int .i64) _ _ _ 2 [.int .i64 2] from rfl) (Reps.one (show Kd.M (Kd.int .i64) _ _ _ 3 [.int .i64 3] from rfl) (Reps.none _ _)))))); intro v352 w41 ho42 hb hg_ hnew_; clear hg_ hnew_; (first | rw [← Ny351.out] at ho42 | (simp only [Int.reduceToNat] at ho42; rw [← Ny351.out] at ho42)); refine zA6 (Kd.R_elder' (zR HO347.out) (Kd.R_base ho42) hb) (Kd.R_lower (Kd.R_new' ho42 (Kd.R_lt (zR HO347.out))) (below_size (zH3 HB.out GE341.out GE342.out GE343.out))) (blk_below (g := gb341) (o := .cells #[.int .i64 a0_0, .int .i64 a0_1, .int .i64 a0_2] 25 (0, 0)) (zB BK341.out) hb) (blk_below (g := gb342) (o := .cells #[.int .i64 0, .int .i64 0, .int .i64 0] 25 (0, 0)) (zB BK342.out) hb) (blk_below (g := gb343) (o := .cells #[.int .i64 x344000_2, .int .i64 x344001_2, .int .i64 x344002_2] 25 (0, 0)) (zB BK343.out) hb) (below_step (zH3 HB.out GE341.out GE342.out GE343.out) hb) ?_; clear HO347 BK341 BK342 BK343 HB; intro HO347 HO353 BK341 BK342 BK343 HB; clear hb ho42))
                    go_meet
                    case rel => exact ⟨_, (wrap64 ((wrap64 ((wrap64 ((wrap64 (a0_1 - 1)) - (wrap64 (Int.tdiv x29_2 a0_0)))) * a0_0)) + (Int.tmod x29_2 a0_0))), (y351), (zF), H', ⟨by have := HJ2.out; have := HK2.out; first | omega | exact Nat.le_refl _⟩, ⟨zRm HO353.out (fun _ hk => trivial)⟩, ⟨zB BK341.out⟩, ⟨zB BK342.out⟩, ⟨zB BK343.out⟩, ⟨zH3 HB.out GE341.out GE342.out GE343.out⟩⟩
                  · rw [if_neg c37] at H
                    have c37b0 := zq3 c37
                    have c37b1 := zq4 c37
                    by_cases c43 : a1 = 2
                    · rw [if_pos c43] at H
                      have c43b0 := zq1 c43
                      have c43b1 := zq2 c43
                      clear c43
                      obtain ⟨y354, hy354⟩ : ∃ y_ : List Int, y_ = (([2, 3, 0, 1] : List Int)) := ⟨_, rfl⟩
                      replace H : (impl_Boxes_reflected.j2 k2 a1 x29_2 (wrap64 ((wrap64 ((Int.tmod x29_2 a0_0) * x344000_2)) + (wrap64 (Int.tdiv x29_2 a0_0)))) y354 t344 x29_2 a0_0 a0_1 a0_2 x344000_2 x344001_2 x344002_2) = some (r1, r2, r3) := by first | (rw [hy354]; with_reducible exact H) | (have H2_ := (Option.bind_some _ _).symm.trans H; rw [hy354]; with_reducible exact H2_) | (have H2_ := (Option.bind_some _ _).symm.trans H; with_reducible exact H2_) | with_reducible exact H | (rw [hy354]; exact H) | exact H
                      have Ny354 := Aside0.mk hy354
                      clear hy354
                      have H' := Aside0.mk H
                      clear H
                      have hnb44 := NB343_341.out
                      have hnc44 := NB341_343.out
                      have hnb45 := NB343_342.out
                      have hnc45 := NB342_343.out
                      obtain ⟨hcz46_0, hcz46_1, hcz46_2⟩ := zc3 BK343
                      obtain ⟨hfz46_0, hfz46_1, hfz46_2⟩ := zf3 BK343
                      go_wp2_with (first | ((with_reducible refine gate_dst (N := 82) rfl ?_); refine Kd.R_lit (Kd.int .i64) _ 3 ?hg (N := 82) ?hd (xs := ([2, 3, 0, 1] : List Int)) (inner := [.int .i64 2, .int .i64 3, .int .i64 0, .int .i64 1]) (ok := fun _ => True) (okp := fun _ => True) ?hr ?hp (fun _ hk => hk) trivial (Below.refl _ _) (Nat.le_refl _) (by simp) ?_; (case hd => rfl); (case hg => rfl); (case hr => first | (go_simp; done) | (go_simp; rfl)); (case hp => exact (Reps.one (show Kd.M (Kd.int .i64) _ _ _ 2 [.int .i64 2] from rfl) (Reps.one (show Kd.M (Kd.int .i64) _ _ _ 3 [.int .i64 3] from rfl) (Reps.one (show Kd.M (Kd.int .i64) _ _ _ 0 [.int .i64 0] from rfl) (Reps.one (show Kd.M (Kd.int .i64) _ _ _ 1 [.int .i64 1] from rfl) (Reps.none _ _)))))); intro v355 w47 ho48 hb hg_ hnew_; clear hg_ hnew_; (first | rw [← Ny354.out] at ho48 | (simp only [Int.reduceToNat] at ho48; rw [← Ny354.out] at ho48)); refine zA6 (Kd.R_elder' (zR HO347.out) (Kd.R_base ho48) hb) (Kd.R_lower (Kd.R_new' ho48 (Kd.R_lt (zR HO347.out))) (below_size (zH3 HB.out GE341.out GE342.out GE343.out))) (blk_below (g := gb341) (o := .cells #[.int .i64 a0_0, .int .i64 a0_1, .int .i64 a0_2] 25 (0, 0)) (zB BK341.out) hb) (blk_below (g := gb342) (o := .cells #[.int .i64 0, .int .i64 0, .int .i64 0] 25 (0, 0)) (zB BK342.out) hb) (blk_below (g := gb343) (o := .cells #[.int .i64 x344000_2, .int .i64 x344001_2, .int .i64 x344002_2] 25 (0, 0)) (zB BK343.out) hb) (below_step (zH3 HB.out GE341.out GE342.out GE343.out) hb) ?_; clear HO347 BK341 BK342 BK343 HB; intro HO347 HO356 BK341 BK342 BK343 HB; clear hb ho48))
                      go_meet
                      case rel => exact ⟨_, (wrap64 ((wrap64 ((Int.tmod x29_2 a0_0) * x344000_2)) + (wrap64 (Int.tdiv x29_2 a0_0)))), (y354), (zF), H', ⟨by have := HJ2.out; have := HK2.out; first | omega | exact Nat.le_refl _⟩, ⟨zRm HO356.out (fun _ hk => trivial)⟩, ⟨zB BK341.out⟩, ⟨zB BK342.out⟩, ⟨zB BK343.out⟩, ⟨zH3 HB.out GE341.out GE342.out GE343.out⟩⟩
                    · rw [if_neg c43] at H
                      have c43b0 := zq3 c43
                      have c43b1 := zq4 c43
                      have H' := Aside0.mk H
                      clear H
                      go_wp2
                      go_meet
                      case rel => exact ⟨_, (wrap64 ((wrap64 ((wrap64 (Int.tdiv x29_2 a0_0)) * a0_0)) + (Int.tmod x29_2 a0_0))), (y345), (zF), H', ⟨by have := HJ2.out; have := HK2.out; first | omega | exact Nat.le_refl _⟩, ⟨zR HO347.out⟩, ⟨zB BK341.out⟩, ⟨zB BK342.out⟩, ⟨zB BK343.out⟩, ⟨zH3 HB.out GE341.out GE342.out GE343.out⟩⟩
              case rest =>
                clear HC24
                try clear c1
                try clear c2
                try clear p2
                try clear c3
                try clear c4
                try clear c6
                try clear p6
                try clear c9
                try clear c10
                try clear c12
                try clear c12b0
                try clear c12b1
                try clear c18
                try clear c19
                try clear c22
                try clear c22b0
                try clear c23
                try clear c23b0
                try clear c23b1
                try clear c26
                try clear c27
                try clear c31
                try clear c31b0
                try clear c31b1
                try clear c32
                try clear c33
                try clear c35
                try clear c37
                try clear c37b0
                try clear c37b1
                try clear c38
                try clear c39
                try clear c43
                try clear c43b0
                try clear c43b1
                try clear c44
                try clear c45
                try clear hcz11_0
                try clear hcz11_1
                try clear hcz11_2
                try clear hcz20_0
                try clear hcz20_1
                try clear hcz20_2
                try clear hcz28_0
                try clear hcz28_1
                try clear hcz28_2
                try clear hcz34_0
                try clear hcz34_1
                try clear hcz34_2
                try clear hcz40_0
                try clear hcz40_1
                try clear hcz40_2
                try clear hcz46_0
                try clear hcz46_1
                try clear hcz46_2
                try clear hcz7_0
                try clear hcz7_1
                try clear hcz7_2
                try clear hfz11_0
                try clear hfz11_1
                try clear hfz11_2
                try clear hfz20_0
                try clear hfz20_1
                try clear hfz20_2
                try clear hfz28_0
                try clear hfz28_1
                try clear hfz28_2
                try clear hfz34_0
                try clear hfz34_1
                try clear hfz34_2
                try clear hfz40_0
                try clear hfz40_1
                try clear hfz40_2
                try clear hfz46_0
                try clear hfz46_1
                try clear hfz46_2
                try clear hfz7_0
                try clear hfz7_1
                try clear hfz7_2
                try clear p2
                obtain ⟨kq, x9_23, x10_23, rfl, HA, HJ23, HO_10, BK341, BK342, BK343, HB⟩ := hcut
                cases kq with
                | zero => exact absurd HA.out (by simp [impl_Boxes_reflected.j2])
                | succ kj23 =>
                  have H := HA.out
                  clear HA
                  simp only [impl_Boxes_reflected.j2] at H
                  obtain ⟨t357, A49, H⟩ := zb H
                  obtain ⟨t360, A50, H⟩ := zb H
                  have H' := Aside0.mk H
                  clear H
                  have hnb51 := NB343_341.out
                  have hnc51 := NB341_343.out
                  have hnb52 := NB343_342.out
                  have hnc52 := NB342_343.out
                  obtain ⟨hcz53_0, hcz53_1, hcz53_2⟩ := zc3 BK343
                  obtain ⟨hfz53_0, hfz53_1, hfz53_2⟩ := zf3 BK343
                  go_wp2_with (first | ((with_reducible refine gate_callee (f := 62) rfl ?_); refine goesL_ (some 85) rfl rfl Try.func62 (by kernel_rfl) rfl #[.agg #[.int .i64 x344000_2, .int .i64 x344001_2, .int .i64 x344002_2], .int .i64 x9_23] rfl zM ?_; (with_reducible refine (impl_Boxes_around.calls x344000_2 x344001_2 x344002_2 x9_23 t357 _ A49.out).mono ?_); rintro e w54 ⟨v358, rfl, ho0, hb⟩; refine ⟨_, rfl, ?_⟩; refine zA6 (Kd.R_below (zR HO_10.out) hb) (Kd.R_lower ho0 (below_size (zH3 HB.out GE341.out GE342.out GE343.out))) (blk_below (g := gb341) (o := .cells #[.int .i64 a0_0, .int .i64 a0_1, .int .i64 a0_2] 25 (0, 0)) (zB BK341.out) hb) (blk_below (g := gb342) (o := .cells #[.int .i64 0, .int .i64 0, .int .i64 0] 25 (0, 0)) (zB BK342.out) hb) (blk_below (g := gb343) (o := .cells #[.int .i64 x344000_2, .int .i64 x344001_2, .int .i64 x344002_2] 25 (0, 0)) (zB BK343.out) hb) (below_step (zH3 HB.out GE341.out GE342.out GE343.out) hb) ?_; clear HO_10 BK341 BK342 BK343 HB; intro HO_10 HO359 BK341 BK342 BK343 HB; (try clear hb); (try clear hb2); (try clear hk); (try clear hi); (try clear ho0); have hnb55 := NB341_342.out; have hnc55 := NB342_341.out; obtain ⟨hcz56_0, hcz56_1, hcz56_2⟩ := zc3 BK341; obtain ⟨hfz56_0, hfz56_1, hfz56_2⟩ := zf3 BK341) | ((with_reducible refine gate_callee (f := 62) rfl ?_); refine goesL_ (some 88) rfl rfl Try.func62 (by kernel_rfl) rfl #[.agg #[.int .i64 a0_0, .int .i64 a0_1, .int .i64 a0_2], .int .i64 x29_2] rfl zM ?_; (with_reducible refine (impl_Boxes_around.calls a0_0 a0_1 a0_2 x29_2 t360 _ A50.out).mono ?_); rintro e w57 ⟨v361, rfl, ho0, hb⟩; refine ⟨_, rfl, ?_⟩; refine zA7 (Kd.R_below (zR HO_10.out) hb) (Kd.R_elder' (zR HO359.out) (Kd.R_base ho0) hb) (Kd.R_lower (Kd.R_new' ho0 (Kd.R_lt (zR HO359.out))) (below_size (zH3 HB.out GE341.out GE342.out GE343.out))) (blk_below (g := gb341) (o := .cells #[.int .i64 a0_0, .int .i64 a0_1, .int .i64 a0_2] 25 (0, 0)) (zB BK341.out) hb) (blk_below (g := gb342) (o := .cells #[.int .i64 0, .int .i64 0, .int .i64 0] 25 (0, 0)) (zB BK342.out) hb) (blk_below (g := gb343) (o := .cells #[.int .i64 x344000_2, .int .i64 x344001_2, .int .i64 x344002_2] 25 (0, 0)) (zB BK343.out) hb) (below_step (zH3 HB.out GE341.out GE342.out GE343.out) hb) ?_; clear HO_10 HO359 BK341 BK342 BK343 HB; intro HO_10 HO359 HO362 BK341 BK342 BK343 HB; (try clear hb); (try clear hb2); (try clear hk); (try clear hi); (try clear ho0); obtain ⟨Ao58, co58, eo58⟩ := Kd.R_slice HO362.out; subst eo58))
                  go_loopg [90] kj23 (fun kq v90 w' => ∃ (x90_4 : Int) (x344002_4 : Int), v90 = .int .i64 x90_4 ∧ Aside0 (impl_Boxes_reflected.l1 kq a1 x10_23 t357 t344 x29_2 t360 (t360.length : Int) x90_4 a0_0 a0_1 a0_2 x344000_2 x344001_2 x344002_4 = some (r1, r2, r3)) ∧ Aside0 (kq ≤ kj23) ∧ Aside0 (Kd.R (Kd.int .i64) 3 w' w.heap.size (fun _ => True) u10 x10_23) ∧ Aside0 (Kd.R (Kd.int .i64) 2 w' w.heap.size (fun k_ => some k_ ≠ ((.slice Ao58 t360.length co58) : Value).ownBlock) v358 t357) ∧ Aside0 (Kd.R (Kd.int .i64) 2 w' w.heap.size (fun k_ => some k_ ≠ (v358 : Value).ownBlock) (.slice Ao58 t360.length co58) t360) ∧ Aside0 (w'.heap[gb341]? = some (.cells #[.int .i64 a0_0, .int .i64 a0_1, .int .i64 a0_2] 25 (0, 0))) ∧ Aside0 (w'.heap[gb342]? = some (.cells #[.int .i64 0, .int .i64 0, .int .i64 0] 25 (0, 0))) ∧ Aside0 (w'.heap[gb343]? = some (.cells #[.int .i64 x344000_2, .int .i64 x344001_2, .int .i64 x344002_4] 25 (0, 0))) ∧ Aside0 (Below w.heap.size w w'))
                  case atStart => exact ⟨(0), (x344002_2), (zF), H', ⟨Nat.le_refl _⟩, ⟨zR HO_10.out⟩, ⟨zRm HO359.out (fun _ hk => hk.2)⟩, ⟨zRm HO362.out (fun _ hk => hk.2)⟩, ⟨zB BK341.out⟩, ⟨zB BK342.out⟩, ⟨zB BK343.out⟩, ⟨zH3 HB.out GE341.out GE342.out GE343.out⟩⟩
                  case round =>
                    clear H'
                    try clear c1
                    try clear c2
                    try clear p2
                    try clear c3
                    try clear c4
                    try clear c5
                    try clear c6
                    try clear p6
                    try clear c9
                    try clear c10
                    try clear c12
                    try clear c12b0
                    try clear c12b1
                    try clear c18
                    try clear c19
                    try clear c22
                    try clear c22b0
                    try clear c23
                    try clear c23b0
                    try clear c23b1
                    try clear c26
                    try clear c27
                    try clear c31
                    try clear c31b0
                    try clear c31b1
                    try clear c32
                    try clear c33
                    try clear c35
                    try clear c37
                    try clear c37b0
                    try clear c37b1
                    try clear c38
                    try clear c39
                    try clear c43
                    try clear c43b0
                    try clear c43b1
                    try clear c44
                    try clear c45
                    try clear c51
                    try clear c52
                    try clear c55
                    try clear hcz11_0
                    try clear hcz11_1
                    try clear hcz11_2
                    try clear hcz20_0
                    try clear hcz20_1
                    try clear hcz20_2
                    try clear hcz28_0
                    try clear hcz28_1
                    try clear hcz28_2
                    try clear hcz34_0
                    try clear hcz34_1
                    try clear hcz34_2
                    try clear hcz40_0
                    try clear hcz40_1
                    try clear hcz40_2
                    try clear hcz46_0
                    try clear hcz46_1
                    try clear hcz46_2
                    try clear hcz53_0
                    try clear hcz53_1
                    try clear hcz53_2
                    try clear hcz56_0
                    try clear hcz56_1
                    try clear hcz56_2
                    try clear hcz7_0
                    try clear hcz7_1
                    try clear hcz7_2
                    try clear hfz11_0
                    try clear hfz11_1
                    try clear hfz11_2
                    try clear hfz20_0
                    try clear hfz20_1
                    try clear hfz20_2
                    try clear hfz28_0
                    try clear hfz28_1
                    try clear hfz28_2
                    try clear hfz34_0
                    try clear hfz34_1
                    try clear hfz34_2
                    try clear hfz40_0
                    try clear hfz40_1
                    try clear hfz40_2
                    try clear hfz46_0
                    try clear hfz46_1
                    try clear hfz46_2
                    try clear hfz53_0
                    try clear hfz53_1
                    try clear hfz53_2
                    try clear hfz56_0
                    try clear hfz56_1
                    try clear hfz56_2
                    try clear hfz7_0
                    try clear hfz7_1
                    try clear hfz7_2
                    try clear p2
                    try clear p6
                    obtain ⟨x90_4, x344002_4, rfl, HA, HK4, HO_10, HO_11, HO_88, BK341, BK342, BK343, HB⟩ := hrel
                    cases gk with
                    | zero => exact absurd HA.out (by simp [impl_Boxes_reflected.l1])
                    | succ k4 =>
                      have H := HA.out
                      clear HA
                      simp only [impl_Boxes_reflected.l1] at H
                      by_cases c59 : x90_4 < (t360.length : Int)
                      · rw [if_pos c59] at H
                        have c59b0 := decide_eq_true c59
                        clear c59
                        by_cases c60 : 0 ≤ x90_4
                        · rw [if_pos c60] at H
                          have c60b0 := decide_eq_true c60
                          clear c60
                          by_cases c61 : x90_4 < (t360.length : Int)
                          · rw [if_pos c61] at H
                            have c61b0 := decide_eq_true c61
                            clear c61
                            obtain ⟨t364, A62, H⟩ := zb H
                            by_cases c63 : t364 = true
                            · subst c63
                              have H1 : (if x90_4 < (x10_23.length : Int) then (if 0 ≤ (rd x10_23 x90_4) then (if (rd x10_23 x90_4) < (t357.length : Int) then (if 0 ≤ (rd t357 (rd x10_23 x90_4)) then (impl_Boxes_reflected.l1 k4 a1 x10_23 t357 t344 x29_2 t360 (t360.length : Int) (wrap64 (x90_4 + 1)) a0_0 a0_1 a0_2 x344000_2 x344001_2 (Go.bits .or .i64 x344002_4 (shl .i64 1 (rd t357 (rd x10_23 x90_4))))) else (none)) else (none)) else (none)) else (none)) = some (r1, r2, r3) := by rw [if_pos rfl] at H; exact H
                              clear H
                              have H := H1
                              clear H1
                              by_cases c64 : x90_4 < (x10_23.length : Int)
                              · rw [if_pos c64] at H
                                have c64b0 := decide_eq_true c64
                                clear c64
                                by_cases c65 : 0 ≤ (rd x10_23 x90_4)
                                · rw [if_pos c65] at H
                                  have c65b0 := decide_eq_true c65
                                  clear c65
                                  by_cases c66 : (rd x10_23 x90_4) < (t357.length : Int)
                                  · rw [if_pos c66] at H
                                    have c66b0 := decide_eq_true c66
                                    clear c66
                                    by_cases c67 : 0 ≤ (rd t357 (rd x10_23 x90_4))
                                    · rw [if_pos c67] at H
                                      have c67b0 := eq_true c67
                                      have c67b1 := decide_eq_true c67
                                      clear c67
                                      obtain ⟨ji68, hji68⟩ := zj (shl .i64 1 (rd t357 (rd x10_23 x90_4)))
                                      (first | rw [hji68] at H | simp only [hji68] at H)
                                      (try rw [hji68] at A62)
                                      have hji68_ : (IntKind.i64.wrap (1 * 2 ^ min (rd t357 (rd x10_23 x90_4)).toNat 64)) = ji68 := hji68
                                      have hji68z : (rd t357 (rd x10_23 x90_4)) ≤ 64 → (IntKind.i64.wrap (1 * 2 ^ (rd t357 (rd x10_23 x90_4)).toNat)) = ji68 := shl_small hji68
                                      have hji68u : (IntKind.i64.wrap (2 ^ min (rd t357 (rd x10_23 x90_4)).toNat 64)) = ji68 := by have h_ := hji68_; rw [Int.one_mul] at h_; exact h_
                                      have hji68v : (rd t357 (rd x10_23 x90_4)) ≤ 64 → (IntKind.i64.wrap (2 ^ (rd t357 (rd x10_23 x90_4)).toNat)) = ji68 := fun hle_ => by have h_ := hji68z hle_; rw [Int.one_mul] at h_; exact h_
                                      have hji68y : (wrap64 (1 * 2 ^ min (rd t357 (rd x10_23 x90_4)).toNat 64)) = ji68 := (i64_w _).symm.trans hji68_
                                      have hji68x : (rd t357 (rd x10_23 x90_4)) ≤ 64 → (wrap64 (1 * 2 ^ (rd t357 (rd x10_23 x90_4)).toNat)) = ji68 := fun h_ => (i64_w _).symm.trans (hji68z h_)
                                      have H' := Aside0.mk H
                                      clear H
                                      have p363 : 0 ≤ (x90_4 : Int) := of_decide_eq_true (by first | (with_reducible assumption) | assumption)
                                      have q363 : x90_4 < (t360.length : Int) := of_decide_eq_true (by first | (with_reducible assumption) | assumption)
                                      obtain ⟨ad363, e363, hx363_0⟩ := Kd.at_int (Kd.R_reads' HO_88.out).2.2 x90_4 p363 q363
                                      cases e363
                                      replace p363 := eq_true p363
                                      replace q363 := eq_true q363
                                      have hnb69 := NB341_342.out
                                      have hnc69 := NB342_341.out
                                      have hnb70 := NB341_343.out
                                      have hnc70 := NB343_341.out
                                      obtain ⟨hcz71_0, hcz71_1, hcz71_2⟩ := zc3 BK341
                                      obtain ⟨hfz71_0, hfz71_1, hfz71_2⟩ := zf3 BK341
                                      try go_wp2_with (first | ((with_reducible refine gate_callee (f := 37) rfl ?_); refine goesL_ (some 97) rfl rfl Try.func37 (by kernel_rfl) rfl #[.agg #[.int .i64 a0_0, .int .i64 a0_1, .int .i64 a0_2], .int .i64 (rd t360 x90_4)] rfl zM ?_; (with_reducible refine (impl_Boxes_has.calls a0_0 a0_1 a0_2 (rd t360 x90_4) true _ A62.out).mono ?_); rintro e w72 ⟨rfl, hb⟩; refine ⟨_, rfl, ?_⟩; refine zA7 (Kd.R_below (zR HO_10.out) hb) (Kd.R_below (zR HO_11.out) hb) (Kd.R_below (zR HO_88.out) hb) (blk_below (g := gb341) (o := .cells #[.int .i64 a0_0, .int .i64 a0_1, .int .i64 a0_2] 25 (0, 0)) (zB BK341.out) hb) (blk_below (g := gb342) (o := .cells #[.int .i64 0, .int .i64 0, .int .i64 0] 25 (0, 0)) (zB BK342.out) hb) (blk_below (g := gb343) (o := .cells #[.int .i64 x344000_2, .int .i64 x344001_2, .int .i64 x344002_4] 25 (0, 0)) (zB BK343.out) hb) (below_step (zH3 HB.out GE341.out GE342.out GE343.out) hb) ?_; clear HO_10 HO_11 HO_88 BK341 BK342 BK343 HB; intro HO_10 HO_11 HO_88 BK341 BK342 BK343 HB; (try clear hb); (try clear hb2); (try clear hk); (try clear hi)))
                                      refine zA7 (Kd.R_drew HO_10.out) (Kd.R_drew HO_11.out) (Kd.R_drew HO_88.out) (blk_drew BK341.out) (blk_drew BK342.out) (blk_drew BK343.out) (below_drew1 HB.out) ?_
                                      clear HO_10 HO_11 HO_88 BK341 BK342 BK343 HB
                                      intro HO_10 HO_11 HO_88 BK341 BK342 BK343 HB
                                      obtain ⟨Ao74, co74, eo74⟩ := Kd.R_slice HO_10.out
                                      (first | subst eo74 | (injection eo74 with f1_ f2_ f3_; have f4_ := f1_.symm; have f5_ := f3_.symm; clear f1_ f2_ f3_; subst f4_; subst f5_))
                                      have p365 : 0 ≤ (x90_4 : Int) := of_decide_eq_true (by first | (with_reducible assumption) | assumption)
                                      have q365 : x90_4 < (x10_23.length : Int) := of_decide_eq_true (by first | (with_reducible assumption) | assumption)
                                      obtain ⟨ad365, e365, hx365_0⟩ := Kd.at_int (Kd.R_reads' HO_10.out).2.2 x90_4 p365 q365
                                      cases e365
                                      replace p365 := eq_true p365
                                      replace q365 := eq_true q365
                                      obtain ⟨Ao75, co75, eo75⟩ := Kd.R_slice HO_11.out
                                      (first | subst eo75 | (injection eo75 with f1_ f2_ f3_; have f4_ := f1_.symm; have f5_ := f3_.symm; clear f1_ f2_ f3_; subst f4_; subst f5_))
                                      have p366 : 0 ≤ ((rd x10_23 x90_4) : Int) := of_decide_eq_true (by first | (with_reducible assumption) | assumption)
                                      have q366 : (rd x10_23 x90_4) < (t357.length : Int) := of_decide_eq_true (by first | (with_reducible assumption) | assumption)
                                      obtain ⟨ad366, e366, hx366_0⟩ := Kd.at_int (Kd.R_reads' HO_11.out).2.2 (rd x10_23 x90_4) p366 q366
                                      cases e366
                                      replace p366 := eq_true p366
                                      replace q366 := eq_true q366
                                      refine start_ (n := 13) (S := fun w' => w'.cell? ⟨gb343, 0, none⟩ = some (.int .i64 x344000_2) ∧ w'.cell? ⟨gb343, 1, none⟩ = some (.int .i64 x344001_2) ∧ w'.cell? ⟨gb343, 2, none⟩ = some (.int .i64 x344002_4) ∧ w'.cell? (ad365.add (x90_4).toNat) = some (.int .i64 (rd x10_23 x90_4)) ∧ w'.cell? (ad366.add ((rd x10_23 x90_4)).toNat) = some (.int .i64 (rd t357 (rd x10_23 x90_4)))) (ds := [12]) #[false, false, false, false, false, false, false, false, false, false, false, false, false] (by kernel_rfl) rfl rfl ⟨(blk_cell BK343.out 0).trans rfl, (blk_cell BK343.out 1).trans rfl, (blk_cell BK343.out 2).trans rfl, hx365_0, hx366_0⟩ (fun hHeld => ?_); refine with_tabW impl_Boxes_reflected.tab21 impl_Boxes_reflected.bits21 (fun HT_ HW_ => ?_)
                                      generalize w72.drew = w73 at HO_10 HO_11 HO_88 BK341 BK342 BK343 HB hx365_0 hx366_0 hHeld ⊢
                                      refine zP HT_ 0 (some 98) rfl rfl ?_
                                      refine zP HT_ 2 (some 100) rfl rfl ?_
                                      refine zP HT_ 3 (some 101) rfl rfl ?_
                                      refine zP HT_ 4 (some 102) rfl rfl ?_
                                      refine zP HT_ 5 (some 103) rfl rfl ?_
                                      refine zT HT_ HW_ hHeld 1 (some 99) rfl rfl ?_
                                      refine zT HT_ HW_ hHeld 6 (some 104) rfl rfl ?_
                                      refine zP HT_ 7 (some 105) rfl rfl ?_
                                      refine zT HT_ HW_ hHeld 8 (some 106) rfl rfl ?_
                                      refine zP HT_ 9 (some 107) rfl rfl ?_
                                      refine zP HT_ 10 (some 108) rfl rfl ?_
                                      refine zP HT_ 11 (some 109) rfl rfl ?_
                                      refine last_ (i := 12) (N := none) #[true, true, true, true, true, true, true, true, true, true, true, true, true] rfl rfl (one_of HT_.out (by kernel_rfl)) (by decide) (fun K hK => ?_)
                                      have hs76 : w73.cell? ⟨gb343, 2, none⟩ = some (.int .i64 x344002_4) := (blk_cell BK343.out 2).trans rfl
                                      have hfs76 := blk_frozen BK343.out 2
                                      have hns76_0 := NB341_343.out
                                      have hns76_1 := NB342_343.out
                                      have hms76_0 := NB343_341.out
                                      have hms76_1 := NB343_342.out
                                      refine skip_ (w1 := ?_) (by rfl) rfl ?_ ?_
                                      rotate_left
                                      · go_simp
                                        rfl
                                      refine hK.out _ _ ?_
                                      clear hK K
                                      refine done_ (done_of HT_.out (by kernel_rfl)) ?_
                                      try go_wp2
                                      go_roundg k4
                                      case measure => have := HJ2.out; have := HK2.out; have := HJ23.out; have := HK4.out; omega
                                      case rel => exact ⟨(wrap64 (x90_4 + 1)), (Go.bits .or .i64 x344002_4 (ji68)), (zF), H', ⟨by have := HJ2.out; have := HK2.out; have := HJ23.out; have := HK4.out; omega⟩, ⟨zRm (Kd.R_far (p := ⟨gb343, 2, none⟩) (Kd.R_types HO_10.out BK343.out (by decide)) (fun _ hk => hk.2) (.int .i64 (Go.bits .or .i64 x344002_4 (ji68)))) (fun _ hk => trivial)⟩, ⟨zRm (Kd.R_far (p := ⟨gb343, 2, none⟩) (Kd.R_types HO_11.out BK343.out (by decide)) (fun _ hk => hk.2) (.int .i64 (Go.bits .or .i64 x344002_4 (ji68)))) (fun _ hk => hk.1)⟩, ⟨zRm (Kd.R_far (p := ⟨gb343, 2, none⟩) (Kd.R_types HO_88.out BK343.out (by decide)) (fun _ hk => hk.2) (.int .i64 (Go.bits .or .i64 x344002_4 (ji68)))) (fun _ hk => hk.1)⟩, ⟨by (with_reducible repeat (first | refine blk_drewN ?_ _ | refine blk_drew ?_ | refine blk_alloc ?_ _)); refine blk_far ?_ NB341_343.out _; (with_reducible repeat (first | refine blk_drewN ?_ _ | refine blk_drew ?_ | refine blk_alloc ?_ _)); exact BK341.out⟩, ⟨by (with_reducible repeat (first | refine blk_drewN ?_ _ | refine blk_drew ?_ | refine blk_alloc ?_ _)); refine blk_far ?_ NB342_343.out _; (with_reducible repeat (first | refine blk_drewN ?_ _ | refine blk_drew ?_ | refine blk_alloc ?_ _)); exact BK342.out⟩, ⟨by (with_reducible repeat (first | refine blk_drewN ?_ _ | refine blk_drew ?_ | refine blk_alloc ?_ _)); refine blk_put (cs := #[.int .i64 x344000_2, .int .i64 x344001_2, .int .i64 x344002_4]) ?_ 2 _ rfl; (with_reducible repeat (first | refine blk_drewN ?_ _ | refine blk_drew ?_ | refine blk_alloc ?_ _)); exact BK343.out⟩, ⟨zH3 HB.out GE341.out GE342.out GE343.out⟩⟩
                                    · rw [if_neg c67] at H
                                      exact absurd H (by simp)
                                  · rw [if_neg c66] at H
                                    exact absurd H (by simp)
                                · rw [if_neg c65] at H
                                  exact absurd H (by simp)
                              · rw [if_neg c64] at H
                                exact absurd H (by simp)
                            · replace c63 := Bool.eq_false_iff.mpr c63
                              subst c63
                              have H1 : (impl_Boxes_reflected.l1 k4 a1 x10_23 t357 t344 x29_2 t360 (t360.length : Int) (wrap64 (x90_4 + 1)) a0_0 a0_1 a0_2 x344000_2 x344001_2 x344002_4) = some (r1, r2, r3) := by rw [if_neg (show ¬ (false = true) by decide)] at H; exact H
                              clear H
                              have H := H1
                              clear H1
                              have H' := Aside0.mk H
                              clear H
                              have p363 : 0 ≤ (x90_4 : Int) := of_decide_eq_true (by first | (with_reducible assumption) | assumption)
                              have q363 : x90_4 < (t360.length : Int) := of_decide_eq_true (by first | (with_reducible assumption) | assumption)
                              obtain ⟨ad363, e363, hx363_0⟩ := Kd.at_int (Kd.R_reads' HO_88.out).2.2 x90_4 p363 q363
                              cases e363
                              replace p363 := eq_true p363
                              replace q363 := eq_true q363
                              have hnb77 := NB341_342.out
                              have hnc77 := NB342_341.out
                              have hnb78 := NB341_343.out
                              have hnc78 := NB343_341.out
                              obtain ⟨hcz79_0, hcz79_1, hcz79_2⟩ := zc3 BK341
                              obtain ⟨hfz79_0, hfz79_1, hfz79_2⟩ := zf3 BK341
                              go_wp2_with (first | ((with_reducible refine gate_callee (f := 37) rfl ?_); refine goesL_ (some 97) rfl rfl Try.func37 (by kernel_rfl) rfl #[.agg #[.int .i64 a0_0, .int .i64 a0_1, .int .i64 a0_2], .int .i64 (rd t360 x90_4)] rfl zM ?_; (with_reducible refine (impl_Boxes_has.calls a0_0 a0_1 a0_2 (rd t360 x90_4) false _ A62.out).mono ?_); rintro e w80 ⟨rfl, hb⟩; refine ⟨_, rfl, ?_⟩; refine zA7 (Kd.R_below (zR HO_10.out) hb) (Kd.R_below (zR HO_11.out) hb) (Kd.R_below (zR HO_88.out) hb) (blk_below (g := gb341) (o := .cells #[.int .i64 a0_0, .int .i64 a0_1, .int .i64 a0_2] 25 (0, 0)) (zB BK341.out) hb) (blk_below (g := gb342) (o := .cells #[.int .i64 0, .int .i64 0, .int .i64 0] 25 (0, 0)) (zB BK342.out) hb) (blk_below (g := gb343) (o := .cells #[.int .i64 x344000_2, .int .i64 x344001_2, .int .i64 x344002_4] 25 (0, 0)) (zB BK343.out) hb) (below_step (zH3 HB.out GE341.out GE342.out GE343.out) hb) ?_; clear HO_10 HO_11 HO_88 BK341 BK342 BK343 HB; intro HO_10 HO_11 HO_88 BK341 BK342 BK343 HB; (try clear hb); (try clear hb2); (try clear hk); (try clear hi)))
                              go_roundg k4
                              case measure => have := HJ2.out; have := HK2.out; have := HJ23.out; have := HK4.out; omega
                              case rel => exact ⟨(wrap64 (x90_4 + 1)), (x344002_4), (zF), H', ⟨by have := HJ2.out; have := HK2.out; have := HJ23.out; have := HK4.out; omega⟩, ⟨zR HO_10.out⟩, ⟨zR HO_11.out⟩, ⟨zR HO_88.out⟩, ⟨zB BK341.out⟩, ⟨zB BK342.out⟩, ⟨zB BK343.out⟩, ⟨zH3 HB.out GE341.out GE342.out GE343.out⟩⟩
                          · rw [if_neg c61] at H
                            exact absurd H (by simp)
                        · rw [if_neg c60] at H
                          exact absurd H (by simp)
                      · rw [if_neg c59] at H
                        have c59b0 := decide_eq_false c59
                        clear c59
                        have H' := Aside0.mk H
                        clear H
                        go_wp2
                        go_roundg k4
                        case measure => have := HJ2.out; have := HK2.out; have := HJ23.out; have := HK4.out; omega
                        case rel => exact ⟨(wrap64 (x29_2 + 1)), (x344002_4), (zF), H', ⟨by have := HJ2.out; have := HK2.out; have := HJ23.out; have := HK4.out; omega⟩, ⟨zB BK341.out⟩, ⟨zB BK342.out⟩, ⟨zB BK343.out⟩, ⟨zH3 HB.out GE341.out GE342.out GE343.out⟩⟩
          · rw [if_neg c22] at H
            have c22b0 := decide_eq_false c22
            clear c22
            simp only [Option.some.injEq, Prod.mk.injEq] at H
            obtain ⟨rfl, rfl, rfl⟩ := H
            have hnb81 := NB343_341.out
            have hnc81 := NB341_343.out
            have hnb82 := NB343_342.out
            have hnc82 := NB342_343.out
            obtain ⟨hcz83_0, hcz83_1, hcz83_2⟩ := zc3 BK343
            obtain ⟨hfz83_0, hfz83_1, hfz83_2⟩ := zf3 BK343
            have hnb84 := NB342_341.out
            have hnc84 := NB341_342.out
            obtain ⟨hcz85_0, hcz85_1, hcz85_2⟩ := zc3 BK342
            obtain ⟨hfz85_0, hfz85_1, hfz85_2⟩ := zf3 BK342
            go_wp2
            refine bodyPost_ret (results_cell_row rfl _ _ gb342 25 #[.int .i64 x344000_2, .int .i64 x344001_2, .int .i64 x344002_2] (0, 0) _ rfl (by (with_reducible repeat (first | refine blk_drewN ?_ _ | refine blk_drew ?_ | refine blk_alloc ?_ _)); refine blk_put (cs := #[.int .i64 x344000_2, .int .i64 x344001_2, .int .i64 0]) ?_ 2 _ rfl; (with_reducible repeat (first | refine blk_drewN ?_ _ | refine blk_drew ?_ | refine blk_alloc ?_ _)); refine blk_put (cs := #[.int .i64 x344000_2, .int .i64 0, .int .i64 0]) ?_ 1 _ rfl; (with_reducible repeat (first | refine blk_drewN ?_ _ | refine blk_drew ?_ | refine blk_alloc ?_ _)); refine blk_put (cs := #[.int .i64 0, .int .i64 0, .int .i64 0]) ?_ 0 _ rfl; (with_reducible repeat (first | refine blk_drewN ?_ _ | refine blk_drew ?_ | refine blk_alloc ?_ _)); exact BK342.out) Try.underlying25 rfl (by kernel_rfl)) rfl ?_
            exact ⟨zE, zH3 HB.out GE341.out GE342.out GE343.out⟩

/-! ### impl_ReflectBoxes: function 15 -/
def impl_ReflectBoxes.f (k : Nat) (a0_0 : Int) (a0_1 : Int) (a0_2 : Int) (a1 : Int) : Option (Int × Int × Int × Int) := (impl_boxesCode.f k a0_0 a0_1 a0_2 a1 3).bind fun t369 => (if t369 = 0 then ((impl_Boxes_reflected.f k a0_0 a0_1 a0_2 a1).bind fun bt370 => (some (bt370.1, bt370.2.1, bt370.2.2, 0))) else (some (0, 0, 0, t369)))
theorem impl_ReflectBoxes.mono : ∀ a0 a1 a2 a3 k, LeO (impl_ReflectBoxes.f k a0 a1 a2 a3) (impl_ReflectBoxes.f (k + 1) a0 a1 a2 a3) := by
  intro a0 a1 a2 a3 k
  unfold impl_ReflectBoxes.f
  repeat' first
      | (with_reducible exact impl_Boxes_reflected.mono _ _ _ _ _)
      | (with_reducible exact impl_boxesCode.mono _ _ _ _ _ _)
      | (with_reducible exact LeO.refl _)
      | (with_reducible exact LeO.none _)
      | (with_reducible refine LeO.ite ?_ ?_)
      | (with_reducible refine LeO.bind ?_ (fun _ => ?_))
      | exact impl_Boxes_reflected.mono _ _ _ _ _
      | exact impl_boxesCode.mono _ _ _ _ _ _
      | exact LeO.none _
      | refine LeO.ite ?_ ?_
      | refine LeO.bind ?_ (fun _ => ?_)
set_option maxHeartbeats 8000000 in
set_option maxRecDepth 100000 in
theorem impl_ReflectBoxes.calls (k : Nat) (a0_0 : Int) (a0_1 : Int) (a0_2 : Int) (a1 : Int) (r1 : Int) (r2 : Int) (r3 : Int) (r4 : Int) (w : World) (h : impl_ReflectBoxes.f k a0_0 a0_1 a0_2 a1 = some (r1, r2, r3, r4)) :
    Calls Try.prog 15 #[.agg #[.int .i64 a0_0, .int .i64 a0_1, .int .i64 a0_2], .int .i64 a1] w fun e w' => e = .returned (.tuple #[.agg #[.int .i64 r1, .int .i64 r2, .int .i64 r3], .int .i64 r4]) ∧ Below w.heap.size w w' := by
  have hu25 := Try.underlying25
  have HB := Aside0.mk (Below.refl w.heap.size w)
  have H : ((impl_boxesCode.f k a0_0 a0_1 a0_2 a1 3).bind fun t369 => (if t369 = 0 then ((impl_Boxes_reflected.f k a0_0 a0_1 a0_2 a1).bind fun bt370 => (some (bt370.1, bt370.2.1, bt370.2.2, 0))) else (some (0, 0, 0, t369)))) = some (r1, r2, r3, r4) := h
  clear h
  obtain ⟨t369, A3, H⟩ := zb H
  by_cases c4 : t369 = 0
  · rw [if_pos c4] at H
    have c4b0 := zq1 c4
    have c4b1 := zq2 c4
    clear c4
    obtain ⟨⟨t370, t371, t372⟩, A5, H⟩ := zb H; (try dsimp only at H)
    simp only [Option.some.injEq, Prod.mk.injEq] at H
    obtain ⟨rfl, rfl, rfl, rfl⟩ := H
    go_enter Try.func15, Try.ntmps15
    go_wp2_with (first | ((with_reducible refine gate_dst (N := 2) rfl ?_); refine zX 2 #[.int .i64 a0_0, .int .i64 a0_1, .int .i64 a0_2] 25 ?_; intro gb367 hg w6 hbox hb; refine zA4 (below_step (zH HB.out) hb) (hbox) ((zS hg (below_size (zH HB.out)) : w.heap.size ≤ gb367)) ((zS hg (below_size (zH HB.out)) : w.heap.size ≤ gb367)) ?_; clear HB; intro HB BK367 GW367 GE367; clear hb hbox hg) | ((with_reducible refine gate_dst (N := 4) rfl ?_); refine zX 4 #[.int .i64 0, .int .i64 0, .int .i64 0] 25 ?_; intro gb368 hg w7 hbox hb; refine zA7 (blk_below (g := gb367) (o := .cells #[.int .i64 a0_0, .int .i64 a0_1, .int .i64 a0_2] 25 (0, 0)) (zB BK367.out) hb) (below_step (zH1 HB.out GE367.out) hb) (hbox) ((zS hg (below_size (zH1 HB.out GE367.out)) : w.heap.size ≤ gb368)) ((zS hg (below_size (zH1 HB.out GE367.out)) : w.heap.size ≤ gb368)) ((zl hg (blk_lt (g := gb367) (o := .cells #[.int .i64 a0_0, .int .i64 a0_1, .int .i64 a0_2] 25 (0, 0)) (zB BK367.out)) : gb367 ≠ gb368)) ((zg hg (blk_lt (g := gb367) (o := .cells #[.int .i64 a0_0, .int .i64 a0_1, .int .i64 a0_2] 25 (0, 0)) (zB BK367.out)) : gb368 ≠ gb367)) ?_; clear BK367 HB; intro BK367 HB BK368 GW368 GE368 NB367_368 NB368_367; clear hb hbox hg; have hnb8 := NB367_368.out; have hnc8 := NB368_367.out; obtain ⟨hcz9_0, hcz9_1, hcz9_2⟩ := zc3 BK367; obtain ⟨hfz9_0, hfz9_1, hfz9_2⟩ := zf3 BK367) | ((with_reducible refine gate_callee (f := 34) rfl ?_); refine goesL_ (some 9) rfl rfl Try.func34 (by kernel_rfl) rfl #[.agg #[.int .i64 a0_0, .int .i64 a0_1, .int .i64 a0_2], .int .i64 a1, .int .i64 3] rfl zM ?_; (with_reducible refine (impl_boxesCode.calls k a0_0 a0_1 a0_2 a1 3 t369 _ A3.out).mono ?_); rintro e w10 ⟨rfl, hb⟩; refine ⟨_, rfl, ?_⟩; refine zA3 (blk_below (g := gb367) (o := .cells #[.int .i64 a0_0, .int .i64 a0_1, .int .i64 a0_2] 25 (0, 0)) (zB BK367.out) hb) (blk_below (g := gb368) (o := .cells #[.int .i64 0, .int .i64 0, .int .i64 0] 25 (0, 0)) (zB BK368.out) hb) (below_step (zH2 HB.out GE367.out GE368.out) hb) ?_; clear BK367 BK368 HB; intro BK367 BK368 HB; (try clear hb); (try clear hb2); (try clear hk); (try clear hi); obtain ⟨hcz11_0, hcz11_1, hcz11_2⟩ := zc3 BK367; obtain ⟨hfz11_0, hfz11_1, hfz11_2⟩ := zf3 BK367) | ((with_reducible refine gate_callee (f := 35) rfl ?_); refine goesL_ (some 16) rfl rfl Try.func35 (by kernel_rfl) rfl #[.agg #[.int .i64 a0_0, .int .i64 a0_1, .int .i64 a0_2], .int .i64 a1] rfl zM ?_; (with_reducible refine (impl_Boxes_reflected.calls k a0_0 a0_1 a0_2 a1 t370 t371 t372 _ A5.out).mono ?_); rintro e w12 ⟨rfl, hb⟩; refine ⟨_, rfl, ?_⟩; refine zA3 (blk_below (g := gb367) (o := .cells #[.int .i64 a0_0, .int .i64 a0_1, .int .i64 a0_2] 25 (0, 0)) (zB BK367.out) hb) (blk_below (g := gb368) (o := .cells #[.int .i64 0, .int .i64 0, .int .i64 0] 25 (0, 0)) (zB BK368.out) hb) (below_step (zH2 HB.out GE367.out GE368.out) hb) ?_; clear BK367 BK368 HB; intro BK367 BK368 HB; (try clear hb); (try clear hb2); (try clear hk); (try clear hi); obtain ⟨hcz13_0, hcz13_1, hcz13_2⟩ := zc3 BK368; obtain ⟨hfz13_0, hfz13_1, hfz13_2⟩ := zf3 BK368))
    refine bodyPost_ret (results_ct rfl _ _ gb368 25 #[.int .i64 t370, .int .i64 t371, .int .i64 t372] (0, 0) _ rfl (by (with_reducible repeat (first | refine blk_drewN ?_ _ | refine blk_drew ?_ | refine blk_alloc ?_ _)); refine blk_put (cs := #[.int .i64 t370, .int .i64 t371, .int .i64 0]) ?_ 2 _ rfl; (with_reducible repeat (first | refine blk_drewN ?_ _ | refine blk_drew ?_ | refine blk_alloc ?_ _)); refine blk_put (cs := #[.int .i64 t370, .int .i64 0, .int .i64 0]) ?_ 1 _ rfl; (with_reducible repeat (first | refine blk_drewN ?_ _ | refine blk_drew ?_ | refine blk_alloc ?_ _)); refine blk_put (cs := #[.int .i64 0, .int .i64 0, .int .i64 0]) ?_ 0 _ rfl; (with_reducible repeat (first | refine blk_drewN ?_ _ | refine blk_drew ?_ | refine blk_alloc ?_ _)); exact BK368.out) Try.underlying25 rfl (by kernel_rfl)) rfl ?_
    exact ⟨zE, zH2 HB.out GE367.out GE368.out⟩
  · rw [if_neg c4] at H
    have c4b0 := zq3 c4
    have c4b1 := zq4 c4
    simp only [Option.some.injEq, Prod.mk.injEq] at H
    obtain ⟨rfl, rfl, rfl, rfl⟩ := H
    go_enter Try.func15, Try.ntmps15
    go_wp2_with (first | ((with_reducible refine gate_dst (N := 2) rfl ?_); refine zX 2 #[.int .i64 a0_0, .int .i64 a0_1, .int .i64 a0_2] 25 ?_; intro gb367 hg w14 hbox hb; refine zA4 (below_step (zH HB.out) hb) (hbox) ((zS hg (below_size (zH HB.out)) : w.heap.size ≤ gb367)) ((zS hg (below_size (zH HB.out)) : w.heap.size ≤ gb367)) ?_; clear HB; intro HB BK367 GW367 GE367; clear hb hbox hg) | ((with_reducible refine gate_dst (N := 4) rfl ?_); refine zX 4 #[.int .i64 0, .int .i64 0, .int .i64 0] 25 ?_; intro gb368 hg w15 hbox hb; refine zA7 (blk_below (g := gb367) (o := .cells #[.int .i64 a0_0, .int .i64 a0_1, .int .i64 a0_2] 25 (0, 0)) (zB BK367.out) hb) (below_step (zH1 HB.out GE367.out) hb) (hbox) ((zS hg (below_size (zH1 HB.out GE367.out)) : w.heap.size ≤ gb368)) ((zS hg (below_size (zH1 HB.out GE367.out)) : w.heap.size ≤ gb368)) ((zl hg (blk_lt (g := gb367) (o := .cells #[.int .i64 a0_0, .int .i64 a0_1, .int .i64 a0_2] 25 (0, 0)) (zB BK367.out)) : gb367 ≠ gb368)) ((zg hg (blk_lt (g := gb367) (o := .cells #[.int .i64 a0_0, .int .i64 a0_1, .int .i64 a0_2] 25 (0, 0)) (zB BK367.out)) : gb368 ≠ gb367)) ?_; clear BK367 HB; intro BK367 HB BK368 GW368 GE368 NB367_368 NB368_367; clear hb hbox hg; have hnb16 := NB367_368.out; have hnc16 := NB368_367.out; obtain ⟨hcz17_0, hcz17_1, hcz17_2⟩ := zc3 BK367; obtain ⟨hfz17_0, hfz17_1, hfz17_2⟩ := zf3 BK367) | ((with_reducible refine gate_callee (f := 34) rfl ?_); refine goesL_ (some 9) rfl rfl Try.func34 (by kernel_rfl) rfl #[.agg #[.int .i64 a0_0, .int .i64 a0_1, .int .i64 a0_2], .int .i64 a1, .int .i64 3] rfl zM ?_; (with_reducible refine (impl_boxesCode.calls k a0_0 a0_1 a0_2 a1 3 t369 _ A3.out).mono ?_); rintro e w18 ⟨rfl, hb⟩; refine ⟨_, rfl, ?_⟩; refine zA3 (blk_below (g := gb367) (o := .cells #[.int .i64 a0_0, .int .i64 a0_1, .int .i64 a0_2] 25 (0, 0)) (zB BK367.out) hb) (blk_below (g := gb368) (o := .cells #[.int .i64 0, .int .i64 0, .int .i64 0] 25 (0, 0)) (zB BK368.out) hb) (below_step (zH2 HB.out GE367.out GE368.out) hb) ?_; clear BK367 BK368 HB; intro BK367 BK368 HB; (try clear hb); (try clear hb2); (try clear hk); (try clear hi); obtain ⟨hcz19_0, hcz19_1, hcz19_2⟩ := zc3 BK368; obtain ⟨hfz19_0, hfz19_1, hfz19_2⟩ := zf3 BK368))
    refine bodyPost_ret (results_ct rfl _ _ gb368 25 #[.int .i64 0, .int .i64 0, .int .i64 0] (0, 0) _ rfl (by (with_reducible repeat (first | refine blk_drewN ?_ _ | refine blk_drew ?_ | refine blk_alloc ?_ _)); refine blk_put (cs := #[.int .i64 0, .int .i64 0, .int .i64 0]) ?_ 2 _ rfl; (with_reducible repeat (first | refine blk_drewN ?_ _ | refine blk_drew ?_ | refine blk_alloc ?_ _)); refine blk_put (cs := #[.int .i64 0, .int .i64 0, .int .i64 0]) ?_ 1 _ rfl; (with_reducible repeat (first | refine blk_drewN ?_ _ | refine blk_drew ?_ | refine blk_alloc ?_ _)); refine blk_put (cs := #[.int .i64 0, .int .i64 0, .int .i64 0]) ?_ 0 _ rfl; (with_reducible repeat (first | refine blk_drewN ?_ _ | refine blk_drew ?_ | refine blk_alloc ?_ _)); exact BK368.out) Try.underlying25 rfl (by kernel_rfl)) rfl ?_
    exact ⟨zE, zH2 HB.out GE367.out GE368.out⟩

/-! ### laws_hasInt: function 17 -/
def laws_hasInt.l0 : Nat → List Int → Int → Int → Option (Bool)
  | 0, _, _, _ => none
  | k + 1, x0, x1, x5 => if x5 < (x0.length : Int) then (if 0 ≤ x5 then (if (rd x0 x5) = x1 then (some true) else (laws_hasInt.l0 k x0 x1 (wrap64 (x5 + 1)))) else (none)) else (some false)
def laws_hasInt.f (k : Nat) (l0 : List Int) (a1 : Int) : Option (Bool) := laws_hasInt.l0 k l0 a1 0
theorem laws_hasInt.mono_l : ∀ k, (∀ y0 y1 y2, LeO (laws_hasInt.l0 k y0 y1 y2) (laws_hasInt.l0 (k + 1) y0 y1 y2))
  | 0 => fun _ _ _ r h => by simp [laws_hasInt.l0] at h
  | k + 1 => by
    have ih0 := laws_hasInt.mono_l k
    · intro y0 y1 y2
      unfold laws_hasInt.l0
      repeat' first
      | (with_reducible exact ih0 _ _ _)
      | (with_reducible exact LeO.refl _)
      | (with_reducible exact LeO.none _)
      | (with_reducible refine LeO.ite ?_ ?_)
      | (with_reducible refine LeO.bind ?_ (fun _ => ?_))
      | exact ih0 _ _ _
      | exact LeO.none _
      | refine LeO.ite ?_ ?_
      | refine LeO.bind ?_ (fun _ => ?_)
theorem laws_hasInt.mono : ∀ a0 a1 k, LeO (laws_hasInt.f k a0 a1) (laws_hasInt.f (k + 1) a0 a1) := by
  intro a0 a1 k
  have ih0 := laws_hasInt.mono_l k
  unfold laws_hasInt.f
  repeat' first
      | (with_reducible exact ih0 _ _ _)
      | (with_reducible exact LeO.refl _)
      | (with_reducible exact LeO.none _)
      | (with_reducible refine LeO.ite ?_ ?_)
      | (with_reducible refine LeO.bind ?_ (fun _ => ?_))
      | exact ih0 _ _ _
      | exact LeO.none _
      | refine LeO.ite ?_ ?_
      | refine LeO.bind ?_ (fun _ => ?_)
set_option maxHeartbeats 8000000 in
set_option maxRecDepth 100000 in
theorem laws_hasInt.calls (k : Nat) (A0 : Option Addr) (c0 : Nat) (l0 : List Int) (a1 : Int) (r : Bool) (w : World) (hr0 : Kd.C (Kd.int .i64) w A0 l0.length l0) (hc0 : l0.length ≤ c0) (h : laws_hasInt.f k l0 a1 = some r) :
    Calls Try.prog 17 #[.slice A0 l0.length c0, .int .i64 a1] w fun e w' => e = .returned (.bool r) ∧ Drawn0 w w' := by
  have HR0 := Aside0.mk hr0
  have HC0 := Aside0.mk hc0
  clear hr0 hc0
  have H : (laws_hasInt.l0 k l0 a1 0) = some r := h
  clear h
  have H' := Aside0.mk H
  clear H
  go_enter Try.func17, Try.ntmps17
  go_wp2
  go_loopg [5] k (fun kq v5 w' => ∃ (x5_1 : Int), v5 = .int .i64 x5_1 ∧ Aside0 (laws_hasInt.l0 kq l0 a1 x5_1 = some r) ∧ Aside0 (kq ≤ k) ∧ Drawn0 w w')
  case atStart => exact ⟨(0), (zF), H', ⟨Nat.le_refl _⟩, zD⟩
  case round =>
    clear H'
    try clear c1
    try clear p2
    obtain ⟨x5_1, rfl, HA, HK1, ⟨m1, rfl⟩⟩ := hrel
    cases gk with
    | zero => exact absurd HA.out (by simp [laws_hasInt.l0])
    | succ k1 =>
      have H := HA.out
      clear HA
      simp only [laws_hasInt.l0] at H
      by_cases c3 : x5_1 < (l0.length : Int)
      · rw [if_pos c3] at H
        have c3b0 := decide_eq_true c3
        clear c3
        by_cases c4 : 0 ≤ x5_1
        · rw [if_pos c4] at H
          have c4b0 := decide_eq_true c4
          clear c4
          by_cases c5 : (rd l0 x5_1) = a1
          · rw [if_pos c5] at H
            have c5b0 := zq1 c5
            have c5b1 := zq2 c5
            clear c5
            obtain rfl := Option.some.inj H
            have p383 : 0 ≤ (x5_1 : Int) := of_decide_eq_true (by first | (with_reducible assumption) | assumption)
            have q383 : x5_1 < (l0.length : Int) := of_decide_eq_true (by first | (with_reducible assumption) | assumption)
            obtain ⟨ad383, e383, hx383_0⟩ := Kd.at_int HR0.out x5_1 p383 q383
            cases e383
            replace p383 := eq_true p383
            replace q383 := eq_true q383
            go_wp2
            go_ret
            exact ⟨zF, zD⟩
          · rw [if_neg c5] at H
            have c5b0 := zq3 c5
            have c5b1 := zq4 c5
            have H' := Aside0.mk H
            clear H
            have p383 : 0 ≤ (x5_1 : Int) := of_decide_eq_true (by first | (with_reducible assumption) | assumption)
            have q383 : x5_1 < (l0.length : Int) := of_decide_eq_true (by first | (with_reducible assumption) | assumption)
            obtain ⟨ad383, e383, hx383_0⟩ := Kd.at_int HR0.out x5_1 p383 q383
            cases e383
            replace p383 := eq_true p383
            replace q383 := eq_true q383
            go_wp2
            go_roundg k1
            case measure => have := HK1.out; omega
            case rel => exact ⟨(wrap64 (x5_1 + 1)), (zF), H', ⟨by have := HK1.out; omega⟩, zD⟩
        · rw [if_neg c4] at H
          exact absurd H (by simp)
      · rw [if_neg c3] at H
        have c3b0 := decide_eq_false c3
        clear c3
        obtain rfl := Option.some.inj H
        go_wp2
        go_ret
        exact ⟨zF, zD⟩

/-! ### impl_isRising: function 39 -/
def impl_isRising.l0 : Nat → List Int → Int → Int → List Int → Int → Int → Option (Bool)
  | 0, _, _, _, _, _, _ => none
  | k + 1, x0, x1, x2, x9, x10, x11 => if x11 < x10 then (if 0 ≤ x11 then (if x11 < (x9.length : Int) then ((impl_within.f (rd x9 x11) x1 x2).bind fun t385 => (if t385 = true then (if x11 > 0 then (if 0 ≤ (wrap64 (x11 - 1)) then (if (wrap64 (x11 - 1)) < (x0.length : Int) then (if (rd x9 x11) ≤ (rd x0 (wrap64 (x11 - 1))) then (some false) else (impl_isRising.l0 k x0 x1 x2 x9 x10 (wrap64 (x11 + 1)))) else (none)) else (none)) else (impl_isRising.l0 k x0 x1 x2 x9 x10 (wrap64 (x11 + 1)))) else (some false))) else (none)) else (none)) else (some true)
def impl_isRising.f (k : Nat) (l0 : List Int) (a1 : Int) (a2 : Int) : Option (Bool) := impl_isRising.l0 k l0 a1 a2 l0 (l0.length : Int) 0
theorem impl_isRising.mono_l : ∀ k, (∀ y0 y1 y2 y3 y4 y5, LeO (impl_isRising.l0 k y0 y1 y2 y3 y4 y5) (impl_isRising.l0 (k + 1) y0 y1 y2 y3 y4 y5))
  | 0 => fun _ _ _ _ _ _ r h => by simp [impl_isRising.l0] at h
  | k + 1 => by
    have ih0 := impl_isRising.mono_l k
    · intro y0 y1 y2 y3 y4 y5
      unfold impl_isRising.l0
      repeat' first
      | (with_reducible exact ih0 _ _ _ _ _ _)
      | (with_reducible exact LeO.refl _)
      | (with_reducible exact LeO.none _)
      | (with_reducible refine LeO.ite ?_ ?_)
      | (with_reducible refine LeO.bind ?_ (fun _ => ?_))
      | exact ih0 _ _ _ _ _ _
      | exact LeO.none _
      | refine LeO.ite ?_ ?_
      | refine LeO.bind ?_ (fun _ => ?_)
theorem impl_isRising.mono : ∀ a0 a1 a2 k, LeO (impl_isRising.f k a0 a1 a2) (impl_isRising.f (k + 1) a0 a1 a2) := by
  intro a0 a1 a2 k
  have ih0 := impl_isRising.mono_l k
  unfold impl_isRising.f
  repeat' first
      | (with_reducible exact ih0 _ _ _ _ _ _)
      | (with_reducible exact LeO.refl _)
      | (with_reducible exact LeO.none _)
      | (with_reducible refine LeO.ite ?_ ?_)
      | (with_reducible refine LeO.bind ?_ (fun _ => ?_))
      | exact ih0 _ _ _ _ _ _
      | exact LeO.none _
      | refine LeO.ite ?_ ?_
      | refine LeO.bind ?_ (fun _ => ?_)
set_option maxHeartbeats 8000000 in
set_option maxRecDepth 100000 in
theorem impl_isRising.calls (k : Nat) (A0 : Option Addr) (c0 : Nat) (l0 : List Int) (a1 : Int) (a2 : Int) (r : Bool) (w : World) (hr0 : Kd.C (Kd.int .i64) w A0 l0.length l0) (hc0 : l0.length ≤ c0) (h : impl_isRising.f k l0 a1 a2 = some r) :
    Calls Try.prog 39 #[.slice A0 l0.length c0, .int .i64 a1, .int .i64 a2] w fun e w' => e = .returned (.bool r) ∧ Drawn0 w w' := by
  have HR0 := Aside0.mk hr0
  have HC0 := Aside0.mk hc0
  clear hr0 hc0
  have H : (impl_isRising.l0 k l0 a1 a2 l0 (l0.length : Int) 0) = some r := h
  clear h
  have H' := Aside0.mk H
  clear H
  go_enter Try.func39, Try.ntmps39
  go_wp2
  go_loopg [11] k (fun kq v11 w' => ∃ (x11_1 : Int), v11 = .int .i64 x11_1 ∧ Aside0 (impl_isRising.l0 kq l0 a1 a2 l0 (l0.length : Int) x11_1 = some r) ∧ Aside0 (kq ≤ k) ∧ Drawn0 w w')
  case atStart => exact ⟨(0), (zF), H', ⟨Nat.le_refl _⟩, zD⟩
  case round =>
    clear H'
    try clear p2
    try clear c3
    obtain ⟨x11_1, rfl, HA, HK1, ⟨m1, rfl⟩⟩ := hrel
    cases gk with
    | zero => exact absurd HA.out (by simp [impl_isRising.l0])
    | succ k1 =>
      have H := HA.out
      clear HA
      simp only [impl_isRising.l0] at H
      by_cases c4 : x11_1 < (l0.length : Int)
      · rw [if_pos c4] at H
        have c4b0 := decide_eq_true c4
        clear c4
        by_cases c5 : 0 ≤ x11_1
        · rw [if_pos c5] at H
          have c5b0 := decide_eq_true c5
          clear c5
          by_cases c6 : x11_1 < (l0.length : Int)
          · rw [if_pos c6] at H
            have c6b0 := decide_eq_true c6
            clear c6
            obtain ⟨t385, A7, H⟩ := zb H
            by_cases c8 : t385 = true
            · subst c8
              have H1 : (if x11_1 > 0 then (if 0 ≤ (wrap64 (x11_1 - 1)) then (if (wrap64 (x11_1 - 1)) < (l0.length : Int) then (if (rd l0 x11_1) ≤ (rd l0 (wrap64 (x11_1 - 1))) then (some false) else (impl_isRising.l0 k1 l0 a1 a2 l0 (l0.length : Int) (wrap64 (x11_1 + 1)))) else (none)) else (none)) else (impl_isRising.l0 k1 l0 a1 a2 l0 (l0.length : Int) (wrap64 (x11_1 + 1)))) = some r := by rw [if_pos rfl] at H; exact H
              clear H
              have H := H1
              clear H1
              by_cases c9 : x11_1 > 0
              · rw [if_pos c9] at H
                have c9b0 := decide_eq_true c9
                clear c9
                obtain ⟨ji10, hji10⟩ := zj (wrap64 (x11_1 - 1))
                (first | rw [hji10] at H | simp only [hji10] at H)
                (try rw [hji10] at A7)
                have hji10w : (IntKind.i64.wrap (x11_1 - 1)) = ji10 := (i64_w _).trans hji10
                by_cases c11 : 0 ≤ (ji10)
                · rw [if_pos c11] at H
                  have c11b0 := decide_eq_true c11
                  clear c11
                  by_cases c12 : (ji10) < (l0.length : Int)
                  · rw [if_pos c12] at H
                    have c12b0 := decide_eq_true c12
                    clear c12
                    by_cases c13 : (rd l0 x11_1) ≤ (rd l0 (ji10))
                    · rw [if_pos c13] at H
                      have c13b0 := decide_eq_true c13
                      clear c13
                      obtain rfl := Option.some.inj H
                      have p384 : 0 ≤ (x11_1 : Int) := of_decide_eq_true (by first | (with_reducible assumption) | assumption)
                      have q384 : x11_1 < (l0.length : Int) := of_decide_eq_true (by first | (with_reducible assumption) | assumption)
                      obtain ⟨ad384, e384, hx384_0⟩ := Kd.at_int HR0.out x11_1 p384 q384
                      cases e384
                      replace p384 := eq_true p384
                      replace q384 := eq_true q384
                      go_wp2_with (first | ((with_reducible refine gate_callee (f := 38) rfl ?_); refine goesL_ (some 19) rfl rfl Try.func38 (by kernel_rfl) rfl #[.int .i64 (rd l0 x11_1), .int .i64 a1, .int .i64 a2] rfl zM ?_; (with_reducible refine (impl_within.calls (rd l0 x11_1) a1 a2 true _ A7.out).mono ?_); rintro e w' ⟨rfl, ⟨nd, rfl⟩⟩; refine ⟨_, rfl, ?_⟩; have p386 : 0 ≤ ((ji10) : Int) := of_decide_eq_true (by first | (with_reducible assumption) | assumption); have q386 : (ji10) < (l0.length : Int) := of_decide_eq_true (by first | (with_reducible assumption) | assumption); obtain ⟨ad386, e386, hx386_0⟩ := Kd.at_int HR0.out (ji10) p386 q386; obtain rfl : ad384 = ad386 := (by injection e386); replace p386 := eq_true p386; replace q386 := eq_true q386))
                      go_ret
                      exact ⟨by first | rfl | (simp; done) | (simp only [← hji10] <;> (first | rfl | simp)) | (simp [*]; done), zD⟩
                    · rw [if_neg c13] at H
                      have c13b0 := decide_eq_false c13
                      clear c13
                      have H' := Aside0.mk H
                      clear H
                      have p384 : 0 ≤ (x11_1 : Int) := of_decide_eq_true (by first | (with_reducible assumption) | assumption)
                      have q384 : x11_1 < (l0.length : Int) := of_decide_eq_true (by first | (with_reducible assumption) | assumption)
                      obtain ⟨ad384, e384, hx384_0⟩ := Kd.at_int HR0.out x11_1 p384 q384
                      cases e384
                      replace p384 := eq_true p384
                      replace q384 := eq_true q384
                      go_wp2_with (first | ((with_reducible refine gate_callee (f := 38) rfl ?_); refine goesL_ (some 19) rfl rfl Try.func38 (by kernel_rfl) rfl #[.int .i64 (rd l0 x11_1), .int .i64 a1, .int .i64 a2] rfl zM ?_; (with_reducible refine (impl_within.calls (rd l0 x11_1) a1 a2 true _ A7.out).mono ?_); rintro e w' ⟨rfl, ⟨nd, rfl⟩⟩; refine ⟨_, rfl, ?_⟩; have p386 : 0 ≤ ((ji10) : Int) := of_decide_eq_true (by first | (with_reducible assumption) | assumption); have q386 : (ji10) < (l0.length : Int) := of_decide_eq_true (by first | (with_reducible assumption) | assumption); obtain ⟨ad386, e386, hx386_0⟩ := Kd.at_int HR0.out (ji10) p386 q386; obtain rfl : ad384 = ad386 := (by injection e386); replace p386 := eq_true p386; replace q386 := eq_true q386))
                      go_roundg k1
                      case measure => have := HK1.out; omega
                      case rel => exact ⟨(wrap64 (x11_1 + 1)), (zF), H', ⟨by have := HK1.out; omega⟩, zD⟩
                  · rw [if_neg c12] at H
                    exact absurd H (by simp)
                · rw [if_neg c11] at H
                  exact absurd H (by simp)
              · rw [if_neg c9] at H
                have c9b0 := decide_eq_false c9
                clear c9
                have H' := Aside0.mk H
                clear H
                have p384 : 0 ≤ (x11_1 : Int) := of_decide_eq_true (by first | (with_reducible assumption) | assumption)
                have q384 : x11_1 < (l0.length : Int) := of_decide_eq_true (by first | (with_reducible assumption) | assumption)
                obtain ⟨ad384, e384, hx384_0⟩ := Kd.at_int HR0.out x11_1 p384 q384
                cases e384
                replace p384 := eq_true p384
                replace q384 := eq_true q384
                go_wp2_with (first | ((with_reducible refine gate_callee (f := 38) rfl ?_); refine goesL_ (some 19) rfl rfl Try.func38 (by kernel_rfl) rfl #[.int .i64 (rd l0 x11_1), .int .i64 a1, .int .i64 a2] rfl zM ?_; (with_reducible refine (impl_within.calls (rd l0 x11_1) a1 a2 true _ A7.out).mono ?_); rintro e w' ⟨rfl, ⟨nd, rfl⟩⟩; refine ⟨_, rfl, ?_⟩))
                go_roundg k1
                case measure => have := HK1.out; omega
                case rel => exact ⟨(wrap64 (x11_1 + 1)), (zF), H', ⟨by have := HK1.out; omega⟩, zD⟩
            · replace c8 := Bool.eq_false_iff.mpr c8
              subst c8
              have H1 : (some false) = some r := by rw [if_neg (show ¬ (false = true) by decide)] at H; exact H
              clear H
              have H := H1
              clear H1
              obtain rfl := Option.some.inj H
              have p384 : 0 ≤ (x11_1 : Int) := of_decide_eq_true (by first | (with_reducible assumption) | assumption)
              have q384 : x11_1 < (l0.length : Int) := of_decide_eq_true (by first | (with_reducible assumption) | assumption)
              obtain ⟨ad384, e384, hx384_0⟩ := Kd.at_int HR0.out x11_1 p384 q384
              cases e384
              replace p384 := eq_true p384
              replace q384 := eq_true q384
              go_wp2_with (first | ((with_reducible refine gate_callee (f := 38) rfl ?_); refine goesL_ (some 19) rfl rfl Try.func38 (by kernel_rfl) rfl #[.int .i64 (rd l0 x11_1), .int .i64 a1, .int .i64 a2] rfl zM ?_; (with_reducible refine (impl_within.calls (rd l0 x11_1) a1 a2 false _ A7.out).mono ?_); rintro e w' ⟨rfl, ⟨nd, rfl⟩⟩; refine ⟨_, rfl, ?_⟩))
              go_ret
              exact ⟨zF, zD⟩
          · rw [if_neg c6] at H
            exact absurd H (by simp)
        · rw [if_neg c5] at H
          exact absurd H (by simp)
      · rw [if_neg c4] at H
        have c4b0 := decide_eq_false c4
        clear c4
        obtain rfl := Option.some.inj H
        go_wp2
        go_ret
        exact ⟨zF, zD⟩

/-! ### impl_HeapGame: function 18 -/
mutual
def impl_HeapGame.j0 : Nat → Int → List Int → Bool → Option ((List (List Int)) × Int)
  | 0, _, _, _ => none
  | k + 1, x0, x1, x18 => if x18 = true then (some (([] : List (List Int)), 2)) else (impl_HeapGame.l0 k x0 x1 (wrap64 (x0 + 1)) 0 ([] : List (List Int)))
def impl_HeapGame.l0 : Nat → Int → List Int → Int → Int → List (List Int) → Option ((List (List Int)) × Int)
  | 0, _, _, _, _, _ => none
  | k + 1, x0, x1, x22, x23, x391000 => if x23 < x22 then (impl_HeapGame.l1 k x0 x1 x23 (([] : List Int)) x22 x23 x1 (x1.length : Int) 0 x391000) else (some (x391000, 0))
def impl_HeapGame.l1 : Nat → Int → List Int → Int → List Int → Int → Int → List Int → Int → Int → List (List Int) → Option ((List (List Int)) × Int)
  | 0, _, _, _, _, _, _, _, _, _, _ => none
  | k + 1, x0, x1, x7, x8, x22, x23, x27, x28, x29, x391000 => if x29 < x28 then (if 0 ≤ x29 then (if x29 < (x27.length : Int) then (if (wrap64 (x7 + (rd x27 x29))) ≤ x0 then (if x8.length < 17592186044416 then (impl_HeapGame.l1 k x0 x1 x7 (x8 ++ [wrap64 (x7 + (rd x27 x29))]) x22 x23 x27 x28 (wrap64 (x29 + 1)) x391000) else (none)) else (impl_HeapGame.l1 k x0 x1 x7 x8 x22 x23 x27 x28 (wrap64 (x29 + 1)) x391000)) else (none)) else (none)) else (if x391000.length < 5864062014805 then (impl_HeapGame.l0 k x0 x1 x22 (wrap64 (x23 + 1)) (x391000 ++ [x8])) else (none))
end
def impl_HeapGame.f (k : Nat) (a0 : Int) (l1 : List Int) : Option ((List (List Int)) × Int) := (impl_within.f a0 0 39).bind fun t388 => (if t388 = true then ((impl_isRising.f k l1 1 39).bind fun t389 => (impl_HeapGame.j0 k a0 l1 (!t389))) else (impl_HeapGame.j0 k a0 l1 true))
theorem impl_HeapGame.mono_l : ∀ k, (∀ y0 y1 y2, LeO (impl_HeapGame.j0 k y0 y1 y2) (impl_HeapGame.j0 (k + 1) y0 y1 y2)) ∧ (∀ y0 y1 y2 y3 y4, LeO (impl_HeapGame.l0 k y0 y1 y2 y3 y4) (impl_HeapGame.l0 (k + 1) y0 y1 y2 y3 y4)) ∧ (∀ y0 y1 y2 y3 y4 y5 y6 y7 y8 y9, LeO (impl_HeapGame.l1 k y0 y1 y2 y3 y4 y5 y6 y7 y8 y9) (impl_HeapGame.l1 (k + 1) y0 y1 y2 y3 y4 y5 y6 y7 y8 y9))
  | 0 => ⟨fun _ _ _ r h => by simp [impl_HeapGame.j0] at h, fun _ _ _ _ _ r h => by simp [impl_HeapGame.l0] at h, fun _ _ _ _ _ _ _ _ _ _ r h => by simp [impl_HeapGame.l1] at h⟩
  | k + 1 => by
    obtain ⟨ih0, ih1, ih2⟩ := impl_HeapGame.mono_l k
    refine ⟨?_, ?_, ?_⟩
    · intro y0 y1 y2
      unfold impl_HeapGame.j0
      repeat' first
      | (with_reducible exact ih0 _ _ _)
      | (with_reducible exact ih1 _ _ _ _ _)
      | (with_reducible exact ih2 _ _ _ _ _ _ _ _ _ _)
      | (with_reducible exact impl_isRising.mono _ _ _ _)
      | (with_reducible exact LeO.refl _)
      | (with_reducible exact LeO.none _)
      | (with_reducible refine LeO.ite ?_ ?_)
      | (with_reducible refine LeO.bind ?_ (fun _ => ?_))
      | exact ih0 _ _ _
      | exact ih1 _ _ _ _ _
      | exact ih2 _ _ _ _ _ _ _ _ _ _
      | exact impl_isRising.mono _ _ _ _
      | exact LeO.none _
      | refine LeO.ite ?_ ?_
      | refine LeO.bind ?_ (fun _ => ?_)
    · intro y0 y1 y2 y3 y4
      unfold impl_HeapGame.l0
      repeat' first
      | (with_reducible exact ih0 _ _ _)
      | (with_reducible exact ih1 _ _ _ _ _)
      | (with_reducible exact ih2 _ _ _ _ _ _ _ _ _ _)
      | (with_reducible exact impl_isRising.mono _ _ _ _)
      | (with_reducible exact LeO.refl _)
      | (with_reducible exact LeO.none _)
      | (with_reducible refine LeO.ite ?_ ?_)
      | (with_reducible refine LeO.bind ?_ (fun _ => ?_))
      | exact ih0 _ _ _
      | exact ih1 _ _ _ _ _
      | exact ih2 _ _ _ _ _ _ _ _ _ _
      | exact impl_isRising.mono _ _ _ _
      | exact LeO.none _
      | refine LeO.ite ?_ ?_
      | refine LeO.bind ?_ (fun _ => ?_)
    · intro y0 y1 y2 y3 y4 y5 y6 y7 y8 y9
      unfold impl_HeapGame.l1
      repeat' first
      | (with_reducible exact ih0 _ _ _)
      | (with_reducible exact ih1 _ _ _ _ _)
      | (with_reducible exact ih2 _ _ _ _ _ _ _ _ _ _)
      | (with_reducible exact impl_isRising.mono _ _ _ _)
      | (with_reducible exact LeO.refl _)
      | (with_reducible exact LeO.none _)
      | (with_reducible refine LeO.ite ?_ ?_)
      | (with_reducible refine LeO.bind ?_ (fun _ => ?_))
      | exact ih0 _ _ _
      | exact ih1 _ _ _ _ _
      | exact ih2 _ _ _ _ _ _ _ _ _ _
      | exact impl_isRising.mono _ _ _ _
      | exact LeO.none _
      | refine LeO.ite ?_ ?_
      | refine LeO.bind ?_ (fun _ => ?_)
theorem impl_HeapGame.mono : ∀ a0 a1 k, LeO (impl_HeapGame.f k a0 a1) (impl_HeapGame.f (k + 1) a0 a1) := by
  intro a0 a1 k
  obtain ⟨ih0, ih1, ih2⟩ := impl_HeapGame.mono_l k
  unfold impl_HeapGame.f
  repeat' first
      | (with_reducible exact ih0 _ _ _)
      | (with_reducible exact ih1 _ _ _ _ _)
      | (with_reducible exact ih2 _ _ _ _ _ _ _ _ _ _)
      | (with_reducible exact impl_isRising.mono _ _ _ _)
      | (with_reducible exact LeO.refl _)
      | (with_reducible exact LeO.none _)
      | (with_reducible refine LeO.ite ?_ ?_)
      | (with_reducible refine LeO.bind ?_ (fun _ => ?_))
      | exact ih0 _ _ _
      | exact ih1 _ _ _ _ _
      | exact ih2 _ _ _ _ _ _ _ _ _ _
      | exact impl_isRising.mono _ _ _ _
      | exact LeO.none _
      | refine LeO.ite ?_ ?_
      | refine LeO.bind ?_ (fun _ => ?_)
set_option maxHeartbeats 8000000 in
set_option maxRecDepth 100000 in
theorem impl_HeapGame.calls (k : Nat) (a0 : Int) (A1 : Option Addr) (c1 : Nat) (l1 : List Int) (r1 : List (List Int)) (r2 : Int) (w : World) (hr1 : Kd.C (Kd.int .i64) w A1 l1.length l1) (hc1 : l1.length ≤ c1) (h : impl_HeapGame.f k a0 l1 = some (r1, r2)) :
    Calls Try.prog 18 #[.int .i64 a0, .slice A1 l1.length c1] w fun e w' => ∃ v0_ : Value, e = .returned (.tuple #[.agg #[v0_], .int .i64 r2]) ∧ Kd.S (Kd.slice 2 (Kd.int .i64)) 29 w' w.heap.size (fun _ => True) v0_ r1 ∧ Below w.heap.size w w' := by
  have hu41 := Try.underlying41
  have HR1 := Aside0.mk hr1
  have HC1 := Aside0.mk hc1
  clear hr1 hc1
  have HB := Aside0.mk (Below.refl w.heap.size w)
  have H : ((impl_within.f a0 0 39).bind fun t388 => (if t388 = true then ((impl_isRising.f k l1 1 39).bind fun t389 => (impl_HeapGame.j0 k a0 l1 (!t389))) else (impl_HeapGame.j0 k a0 l1 true))) = some (r1, r2) := h
  clear h
  have HC3 := Aside0.mk H
  clear H
  go_enter Try.func18, Try.ntmps18
  go_upto_region 1 with (first | ((with_reducible refine gate_dst (N := 4) rfl ?_); refine zX 4 #[.slice none 0 0] 41 ?_; intro gb387 hg w4 hbox hb; refine zA4 (below_step (zH HB.out) hb) (hbox) ((zS hg (below_size (zH HB.out)) : w.heap.size ≤ gb387)) ((zS hg (below_size (zH HB.out)) : w.heap.size ≤ gb387)) ?_; clear HB; intro HB BK387 GW387 GE387; clear hb hbox hg))
  (try simp only [Act.put, List.setIfInBounds_toArray, List.set_cons_zero, List.set_cons_succ])
  go_cut [18] (fun v18 wc => ∃ (kq : Nat) (x18_2 : Bool), v18 = .bool x18_2 ∧ Aside0 (impl_HeapGame.j0 kq a0 l1 x18_2 = some (r1, r2)) ∧ Aside0 (kq ≤ k) ∧ Aside0 (wc.heap[gb387]? = some (.cells #[(.slice none 0 0)] 41 (0, 0))) ∧ Aside0 (Below w.heap.size w wc))
  case first =>
    have H := HC3.out
    clear HC3
    obtain ⟨t388, A5, H⟩ := zb H
    by_cases c6 : t388 = true
    · subst c6
      have H1 : ((impl_isRising.f k l1 1 39).bind fun t389 => (impl_HeapGame.j0 k a0 l1 (!t389))) = some (r1, r2) := by rw [if_pos rfl] at H; exact H
      clear H
      have H := H1
      clear H1
      obtain ⟨t389, A7, H⟩ := zb H
      have H' := Aside0.mk H
      clear H
      go_wp2_with (first | ((with_reducible refine gate_callee (f := 38) rfl ?_); refine goesL_ (some 12) rfl rfl Try.func38 (by kernel_rfl) rfl #[.int .i64 a0, .int .i64 0, .int .i64 39] rfl zM ?_; (with_reducible refine (impl_within.calls a0 0 39 true _ A5.out).mono ?_); rintro e w' ⟨rfl, ⟨nd, rfl⟩⟩; refine ⟨_, rfl, ?_⟩) | (go_at_call 39; (with_reducible refine (impl_isRising.calls k _ _ l1 1 39 t389 _ ?side1 ?side2 A7.out).mono ?_); (case side1 => repeat (first | exact (Kd.C_below HR1.out (zH1 HB.out GE387.out)) | (with_reducible refine Kd.C_alloc ?_ _) | (with_reducible refine Kd.C_drewN ?_ _) | (with_reducible refine Kd.C_drew ?_))); (case side2 => exact HC1.out); rintro e w' ⟨rfl, ⟨nd, rfl⟩⟩))
      go_meet
      case rel => exact ⟨_, (!t389), (zF), H', ⟨by first | omega | exact Nat.le_refl _⟩, ⟨zB BK387.out⟩, ⟨zH1 HB.out GE387.out⟩⟩
    · replace c6 := Bool.eq_false_iff.mpr c6
      subst c6
      have H1 : (impl_HeapGame.j0 k a0 l1 true) = some (r1, r2) := by rw [if_neg (show ¬ (false = true) by decide)] at H; exact H
      clear H
      have H := H1
      clear H1
      have H' := Aside0.mk H
      clear H
      go_wp2_with (first | ((with_reducible refine gate_callee (f := 38) rfl ?_); refine goesL_ (some 12) rfl rfl Try.func38 (by kernel_rfl) rfl #[.int .i64 a0, .int .i64 0, .int .i64 39] rfl zM ?_; (with_reducible refine (impl_within.calls a0 0 39 false _ A5.out).mono ?_); rintro e w' ⟨rfl, ⟨nd, rfl⟩⟩; refine ⟨_, rfl, ?_⟩))
      go_meet
      case rel => exact ⟨_, (true), (zF), H', ⟨by first | omega | exact Nat.le_refl _⟩, ⟨zB BK387.out⟩, ⟨zH1 HB.out GE387.out⟩⟩
  case rest =>
    clear HC3
    try clear c1
    try clear p2
    try clear c3
    try clear c6
    obtain ⟨kq, x18_2, rfl, HA, HJ2, BK387, HB⟩ := hcut
    cases kq with
    | zero => exact absurd HA.out (by simp [impl_HeapGame.j0])
    | succ kj2 =>
      have H := HA.out
      clear HA
      simp only [impl_HeapGame.j0] at H
      by_cases c8 : x18_2 = true
      · subst c8
        have H1 : (some (([] : List (List Int)), 2)) = some (r1, r2) := by rw [if_pos rfl] at H; exact H
        clear H
        have H := H1
        clear H1
        simp only [Option.some.injEq, Prod.mk.injEq] at H
        obtain ⟨rfl, rfl⟩ := H
        have hcz9_0 : wc.cell? ⟨gb387, 0, none⟩ = some (.slice none 0 0) := (blk_cell BK387.out 0).trans rfl
        have hfz9_0 := blk_frozen BK387.out 0
        go_wp2
        refine bodyPost_ret (results_ct rfl _ _ gb387 41 #[.slice none 0 0] (0, 0) _ rfl (by (with_reducible repeat (first | refine blk_drewN ?_ _ | refine blk_drew ?_ | refine blk_alloc ?_ _)); refine blk_put (cs := #[.slice none 0 0]) ?_ 0 _ rfl; (with_reducible repeat (first | refine blk_drewN ?_ _ | refine blk_drew ?_ | refine blk_alloc ?_ _)); exact BK387.out) Try.underlying41 rfl (by kernel_rfl)) rfl ?_
        exact ⟨_, zE, by first | exact Kd.S_nil _ _ _ _ _ | exact Kd.N_nil _ _ _ _ _ | exact Kd.V_nil _ _ _ _ _ | exact Kd.Q_nil _ _ _ _ _ | exact Kd.R_nil _ _ _ _ _, zH1 HB.out GE387.out⟩
      · replace c8 := Bool.eq_false_iff.mpr c8
        subst c8
        have H1 : (impl_HeapGame.l0 kj2 a0 l1 (wrap64 (a0 + 1)) 0 ([] : List (List Int))) = some (r1, r2) := by rw [if_neg (show ¬ (false = true) by decide)] at H; exact H
        clear H
        have H := H1
        clear H1
        have H' := Aside0.mk H
        clear H
        go_wp2_with (first | ((with_reducible refine gate_dst (N := 6) rfl ?_); refine zX 6 #[.slice none 0 0] 41 ?_; intro gb390 hg w10 hbox hb; refine zA7 (blk_below (g := gb387) (o := .cells #[.slice none 0 0] 41 (0, 0)) (zB BK387.out) hb) (below_step (zH1 HB.out GE387.out) hb) (hbox) ((zS hg (below_size (zH1 HB.out GE387.out)) : w.heap.size ≤ gb390)) ((zS hg (below_size (zH1 HB.out GE387.out)) : w.heap.size ≤ gb390)) ((zl hg (blk_lt (g := gb387) (o := .cells #[.slice none 0 0] 41 (0, 0)) (zB BK387.out)) : gb387 ≠ gb390)) ((zg hg (blk_lt (g := gb387) (o := .cells #[.slice none 0 0] 41 (0, 0)) (zB BK387.out)) : gb390 ≠ gb387)) ?_; clear BK387 HB; intro BK387 HB BK390 GW390 GE390 NB387_390 NB390_387; clear hb hbox hg; have hnb11 := NB390_387.out; have hnc11 := NB387_390.out; have hcz12_0 : w10.cell? ⟨gb390, 0, none⟩ = some (.slice none 0 0) := (blk_cell BK390.out 0).trans rfl; have hfz12_0 := blk_frozen BK390.out 0))
        go_loopg [23] kj2 (fun kq v23 w' => ∃ (x23_2 : Int) (x391000_2 : List (List Int)) (u391000 : Value), v23 = .int .i64 x23_2 ∧ Aside0 (impl_HeapGame.l0 kq a0 l1 (wrap64 (a0 + 1)) x23_2 x391000_2 = some (r1, r2)) ∧ Aside0 (kq ≤ kj2) ∧ Aside0 (Kd.S (Kd.slice 2 (Kd.int .i64)) 29 w' w.heap.size (fun _ => True) u391000 x391000_2) ∧ Aside0 (w'.heap[gb387]? = some (.cells #[(.slice none 0 0)] 41 (0, 0))) ∧ Aside0 (w'.heap[gb390]? = some (.cells #[u391000] 41 (0, 0))) ∧ Aside0 (Below w.heap.size w w'))
        case atStart => exact ⟨(0), (([] : List (List Int))), (.slice none 0 0), (zF), H', ⟨Nat.le_refl _⟩, ⟨by first | exact Kd.S_nil _ _ _ _ _ | exact Kd.N_nil _ _ _ _ _ | exact Kd.V_nil _ _ _ _ _ | exact Kd.Q_nil _ _ _ _ _ | exact Kd.R_nil _ _ _ _ _⟩, ⟨by (with_reducible repeat (first | refine blk_drewN ?_ _ | refine blk_drew ?_ | refine blk_alloc ?_ _)); refine blk_far ?_ NB387_390.out _; (with_reducible repeat (first | refine blk_drewN ?_ _ | refine blk_drew ?_ | refine blk_alloc ?_ _)); exact BK387.out⟩, ⟨by (with_reducible repeat (first | refine blk_drewN ?_ _ | refine blk_drew ?_ | refine blk_alloc ?_ _)); refine blk_put (cs := #[.slice none 0 0]) ?_ 0 _ rfl; (with_reducible repeat (first | refine blk_drewN ?_ _ | refine blk_drew ?_ | refine blk_alloc ?_ _)); exact BK390.out⟩, ⟨zH2 HB.out GE387.out GE390.out⟩⟩
        case round =>
          clear H'
          try clear c1
          try clear p2
          try clear c3
          try clear c6
          try clear p6
          try clear c8
          try clear c11
          try clear hcz12_0
          try clear hcz9_0
          try clear hfz12_0
          try clear hfz9_0
          try clear p2
          obtain ⟨x23_2, x391000_2, u391000, rfl, HA, HK2, HO_391000, BK387, BK390, HB⟩ := hrel
          cases gk with
          | zero => exact absurd HA.out (by simp [impl_HeapGame.l0])
          | succ k2 =>
            have H := HA.out
            clear HA
            simp only [impl_HeapGame.l0] at H
            by_cases c13 : x23_2 < (wrap64 (a0 + 1))
            · rw [if_pos c13] at H
              have c13b0 := decide_eq_true c13
              clear c13
              obtain ⟨y391, hy391⟩ : ∃ y_ : List Int, y_ = (([] : List Int)) := ⟨_, rfl⟩
              replace H : (impl_HeapGame.l1 k2 a0 l1 x23_2 y391 (wrap64 (a0 + 1)) x23_2 l1 (l1.length : Int) 0 x391000_2) = some (r1, r2) := by first | (rw [hy391]; with_reducible exact H) | (have H2_ := (Option.bind_some _ _).symm.trans H; rw [hy391]; with_reducible exact H2_) | (have H2_ := (Option.bind_some _ _).symm.trans H; with_reducible exact H2_) | with_reducible exact H | (rw [hy391]; exact H) | exact H
              have Ny391 := Aside0.mk hy391
              clear hy391
              have H' := Aside0.mk H
              clear H
              go_wp2_with (first | ((with_reducible refine gate_dst (N := 26) rfl ?_); refine Kd.R_lit (Kd.int .i64) _ 2 ?hg (N := 26) ?hd (xs := ([] : List Int)) (inner := []) (ok := fun _ => True) (okp := fun _ => True) ?hr ?hp (fun _ hk => hk) trivial (Below.refl _ _) (Nat.le_refl _) (by simp) ?_; (case hd => rfl); (case hg => rfl); (case hr => first | (go_simp; done) | (go_simp; rfl)); (case hp => exact (Reps.none _ _)); intro v392 w14 ho15 hb hg_ hnew_; clear hg_ hnew_; (first | rw [← Ny391.out] at ho15 | (simp only [Int.reduceToNat] at ho15; rw [← Ny391.out] at ho15)); refine zA5 (Kd.S_elder' (by (with_reducible repeat (first | apply Kd.S_alloc | apply Kd.S_drewN | apply Kd.S_drew)); exact HO_391000.out) (Kd.R_base ho15) hb) (Kd.R_lower ho15 (below_size (zH2 HB.out GE387.out GE390.out))) (blk_below (g := gb387) (o := .cells #[.slice none 0 0] 41 (0, 0)) (zB BK387.out) hb) (blk_below (g := gb390) (o := .cells #[u391000] 41 (0, 0)) (zB BK390.out) hb) (below_step (zH2 HB.out GE387.out GE390.out) hb) ?_; clear HO_391000 BK387 BK390 HB; intro HO_391000 HO393 BK387 BK390 HB; clear hb ho15))
              go_loopg [8, 29] k2 (fun kq v8 v29 w' => ∃ (x8_3 : List Int) (x29_3 : Int), v29 = .int .i64 x29_3 ∧ Aside0 (impl_HeapGame.l1 kq a0 l1 x23_2 x8_3 (wrap64 (a0 + 1)) x23_2 l1 (l1.length : Int) x29_3 x391000_2 = some (r1, r2)) ∧ Aside0 (kq ≤ k2) ∧ Aside0 (Kd.R (Kd.int .i64) 2 w' w.heap.size (fun _ => True) v8 x8_3) ∧ Aside0 (Kd.S (Kd.slice 2 (Kd.int .i64)) 29 w' w.heap.size (fun k_ => some k_ ≠ (v8 : Value).ownBlock) u391000 x391000_2) ∧ Aside0 (w'.heap[gb387]? = some (.cells #[(.slice none 0 0)] 41 (0, 0))) ∧ Aside0 (w'.heap[gb390]? = some (.cells #[u391000] 41 (0, 0))) ∧ Aside0 (Below w.heap.size w w'))
              case atStart => exact ⟨(y391), (0), (zF), H', ⟨Nat.le_refl _⟩, ⟨zR HO393.out⟩, ⟨by (with_reducible repeat (first | apply Kd.S_alloc | apply Kd.S_drewN | apply Kd.S_drew)); exact Kd.S_mono HO_391000.out (fun _ hk => hk.2)⟩, ⟨zB BK387.out⟩, ⟨zB BK390.out⟩, ⟨zH2 HB.out GE387.out GE390.out⟩⟩
              case round =>
                clear H'
                try clear c1
                try clear p2
                try clear c3
                try clear c6
                try clear p6
                try clear c8
                try clear c11
                try clear c13
                try clear c13b0
                try clear hcz12_0
                try clear hcz9_0
                try clear hfz12_0
                try clear hfz9_0
                try clear p2
                try clear p6
                obtain ⟨x8_3, x29_3, rfl, HA, HK3, HO_8, HO_391000, BK387, BK390, HB⟩ := hrel
                cases gk with
                | zero => exact absurd HA.out (by simp [impl_HeapGame.l1])
                | succ k3 =>
                  have H := HA.out
                  clear HA
                  simp only [impl_HeapGame.l1] at H
                  by_cases c16 : x29_3 < (l1.length : Int)
                  · rw [if_pos c16] at H
                    have c16b0 := decide_eq_true c16
                    clear c16
                    by_cases c17 : 0 ≤ x29_3
                    · rw [if_pos c17] at H
                      have c17b0 := decide_eq_true c17
                      clear c17
                      by_cases c18 : x29_3 < (l1.length : Int)
                      · rw [if_pos c18] at H
                        have c18b0 := decide_eq_true c18
                        clear c18
                        by_cases c19 : (wrap64 (x23_2 + (rd l1 x29_3))) ≤ a0
                        · rw [if_pos c19] at H
                          have c19b0 := decide_eq_true c19
                          clear c19
                          by_cases c20 : x8_3.length < 17592186044416
                          · rw [if_pos c20] at H
                            have LMc20 := Aside0.mk c20
                            clear c20
                            obtain ⟨y395, hy395⟩ : ∃ y_ : List Int, y_ = (x8_3 ++ [wrap64 (x23_2 + (rd l1 x29_3))]) := ⟨_, rfl⟩
                            replace H : (impl_HeapGame.l1 k3 a0 l1 x23_2 y395 (wrap64 (a0 + 1)) x23_2 l1 (l1.length : Int) (wrap64 (x29_3 + 1)) x391000_2) = some (r1, r2) := by first | (rw [hy395]; with_reducible exact H) | (have H2_ := (Option.bind_some _ _).symm.trans H; rw [hy395]; with_reducible exact H2_) | (have H2_ := (Option.bind_some _ _).symm.trans H; with_reducible exact H2_) | with_reducible exact H | (rw [hy395]; exact H) | exact H
                            have Ny395 := Aside0.mk hy395
                            clear hy395
                            have H' := Aside0.mk H
                            clear H
                            have p394 : 0 ≤ (x29_3 : Int) := of_decide_eq_true (by first | (with_reducible assumption) | assumption)
                            have q394 : x29_3 < (l1.length : Int) := of_decide_eq_true (by first | (with_reducible assumption) | assumption)
                            obtain ⟨ad394, e394, hx394_0⟩ := Kd.at_int HR1.out x29_3 p394 q394
                            cases e394
                            replace hx394_0 := (HB.out.cell (World.block_lt_of_cell? w _ hx394_0)).trans hx394_0
                            replace p394 := eq_true p394
                            replace q394 := eq_true q394
                            go_wp2_with (first | ((with_reducible refine gate_builtin (b := .append) (xs := #[.tmp 38, .tmp 42]) rfl ?_); at_builtin; refine Kd.R_append (Kd.int .i64) (w0 := w) w.heap.size rfl (.tmp 38) (.tmp 42) 29 2 (.int .i64 0) 8 rfl Try.underlying29 info2 rfl (by decide) (by omega) u8 x8_3 (wrap64 (x23_2 + (rd l1 x29_3))) [.int .i64 (wrap64 (x23_2 + (rd l1 x29_3)))] (fun _ => True) (fun _ => False) rfl rfl ?aP (fun _ hk => hk.elim) ?aF ?aO ?aB ?aS ?aL ?_; (case aP => exact rfl); (case aB => exact (zH2 HB.out GE387.out GE390.out)); (case aF => exact (fun _ _ => trivial)); (case aO => exact (zR HO_8.out)); (case aS => exact (below_size (zH2 HB.out GE387.out GE390.out))); (case aL => have := LMc20.out; omega); intro v396 w21 ho hb hg hat; rw [← Ny395.out] at ho; refine zA5 (Kd.S_after (ok := (fun _ => True)) (by (with_reducible repeat (first | apply Kd.S_alloc | apply Kd.S_drewN | apply Kd.S_drew)); exact Kd.S_mono HO_391000.out (fun _ hk => ⟨trivial, hk⟩)) hg hat) (blk_grown (g := gb387) (o := .cells #[.slice none 0 0] 41 (0, 0)) (zB BK387.out) hg (Kd.R_ne HO_8.out BK387.out (by decide))) (blk_grown (g := gb390) (o := .cells #[u391000] 41 (0, 0)) (zB BK390.out) hg (Kd.R_ne HO_8.out BK390.out (by decide))) (hb) (ho) ?_; clear HO_391000 BK387 BK390 HB HO_8; intro HO_391000 BK387 BK390 HB HO397; clear ho hb hg hat))
                            go_roundg k3
                            case measure => have := HJ2.out; have := HK2.out; have := HK3.out; omega
                            case rel => exact ⟨(y395), (wrap64 (x29_3 + 1)), (zF), H', ⟨by have := HJ2.out; have := HK2.out; have := HK3.out; omega⟩, ⟨zR HO397.out⟩, ⟨by (with_reducible repeat (first | apply Kd.S_alloc | apply Kd.S_drewN | apply Kd.S_drew)); exact Kd.S_mono HO_391000.out (fun _ hk => hk.2)⟩, ⟨zB BK387.out⟩, ⟨zB BK390.out⟩, ⟨zH2 HB.out GE387.out GE390.out⟩⟩
                          · rw [if_neg c20] at H
                            exact absurd H (by simp)
                        · rw [if_neg c19] at H
                          have c19b0 := decide_eq_false c19
                          clear c19
                          have H' := Aside0.mk H
                          clear H
                          have p394 : 0 ≤ (x29_3 : Int) := of_decide_eq_true (by first | (with_reducible assumption) | assumption)
                          have q394 : x29_3 < (l1.length : Int) := of_decide_eq_true (by first | (with_reducible assumption) | assumption)
                          obtain ⟨ad394, e394, hx394_0⟩ := Kd.at_int HR1.out x29_3 p394 q394
                          cases e394
                          replace hx394_0 := (HB.out.cell (World.block_lt_of_cell? w _ hx394_0)).trans hx394_0
                          replace p394 := eq_true p394
                          replace q394 := eq_true q394
                          go_wp2
                          go_roundg k3
                          case measure => have := HJ2.out; have := HK2.out; have := HK3.out; omega
                          case rel => exact ⟨(x8_3), (wrap64 (x29_3 + 1)), (zF), H', ⟨by have := HJ2.out; have := HK2.out; have := HK3.out; omega⟩, ⟨zR HO_8.out⟩, ⟨by (with_reducible repeat (first | apply Kd.S_alloc | apply Kd.S_drewN | apply Kd.S_drew)); exact HO_391000.out⟩, ⟨zB BK387.out⟩, ⟨zB BK390.out⟩, ⟨zH2 HB.out GE387.out GE390.out⟩⟩
                      · rw [if_neg c18] at H
                        exact absurd H (by simp)
                    · rw [if_neg c17] at H
                      exact absurd H (by simp)
                  · rw [if_neg c16] at H
                    have c16b0 := decide_eq_false c16
                    clear c16
                    by_cases c22 : x391000_2.length < 5864062014805
                    · rw [if_pos c22] at H
                      have LMc22 := Aside0.mk c22
                      clear c22
                      obtain ⟨y398, hy398⟩ : ∃ y_ : List (List Int), y_ = (x391000_2 ++ [x8_3]) := ⟨_, rfl⟩
                      replace H : (impl_HeapGame.l0 k3 a0 l1 (wrap64 (a0 + 1)) (wrap64 (x23_2 + 1)) y398) = some (r1, r2) := by first | (rw [hy398]; with_reducible exact H) | (have H2_ := (Option.bind_some _ _).symm.trans H; rw [hy398]; with_reducible exact H2_) | (have H2_ := (Option.bind_some _ _).symm.trans H; with_reducible exact H2_) | with_reducible exact H | (rw [hy398]; exact H) | exact H
                      have Ny398 := Aside0.mk hy398
                      clear hy398
                      have H' := Aside0.mk H
                      clear H
                      have hnb23 := NB390_387.out
                      have hnc23 := NB387_390.out
                      have hcz24_0 : wr.cell? ⟨gb390, 0, none⟩ = some (u391000) := (blk_cell BK390.out 0).trans rfl
                      have hfz24_0 := blk_frozen BK390.out 0
                      obtain ⟨Ao26, co26, eo26⟩ := Kd.R_slice HO_8.out
                      subst eo26
                      go_wp2_with (first | ((with_reducible refine gate_builtin (b := .append) (xs := #[.tmp 46, .tmp 48]) rfl ?_); at_builtin; refine Kd.S_append (Kd.slice 2 (Kd.int .i64)) (w0 := w) w.heap.size rfl (.tmp 46) (.tmp 48) 39 29 (.slice none 0 0) 24 rfl Try.underlying39 info29 rfl (by decide) (by omega) u391000 x391000_2 x8_3 [.slice Ao26 x8_3.length co26] (fun _ => True) (fun k_ => some k_ = (.slice Ao26 x8_3.length co26 : Value).ownBlock) rfl rfl ?aP (fun k_ hk_ => ((Kd.R_mono (ok' := fun k_ => ((fun _ => True)) k_ ∧ some k_ ≠ (u391000 : Value).ownBlock) (Kd.R_apart' (HO_8.out) (Kd.S_typed HO_391000.out) (by decide)) (fun k_ hk => ⟨trivial, hk.2⟩))).1 k_ hk_.symm) ?aF ?aO ?aB ?aS ?aL ?_; (case aP => exact Kd.M_row (Kd.R_mono (Kd.R_tight rfl (Kd.R_mono (ok' := fun k_ => ((fun _ => True)) k_ ∧ some k_ ≠ (u391000 : Value).ownBlock) (Kd.R_apart' (HO_8.out) (Kd.S_typed HO_391000.out) (by decide)) (fun k_ hk => ⟨trivial, hk.2⟩))) (fun _ h_ => h_))); (case aB => exact (zH2 HB.out GE387.out GE390.out)); (case aF => exact (fun _ _ => trivial)); (case aO => exact (by (with_reducible repeat (first | apply Kd.S_alloc | apply Kd.S_drewN | apply Kd.S_drew)); exact Kd.S_mono HO_391000.out (fun k_ hk => ⟨trivial, fun e_ => hk e_⟩))); (case aS => exact (below_size (zH2 HB.out GE387.out GE390.out))); (case aL => have := LMc22.out; omega); intro v399 w25 ho hb hg hat; rw [← Ny398.out] at ho; refine zA4 (blk_grown (g := gb387) (o := .cells #[.slice none 0 0] 41 (0, 0)) (zB BK387.out) hg (Kd.S_ne HO_391000.out BK387.out (by decide))) (blk_grown (g := gb390) (o := .cells #[u391000] 41 (0, 0)) (zB BK390.out) hg (Kd.S_ne HO_391000.out BK390.out (by decide))) (hb) (ho) ?_; clear BK387 BK390 HB HO_391000 HO_8; intro BK387 BK390 HB HO400; clear ho hb hg hat; obtain ⟨Ao27, co27, eo27⟩ := Kd.S_slice HO400.out; subst eo27; have hcz28_0 : w25.cell? ⟨gb390, 0, none⟩ = some (u391000) := (blk_cell BK390.out 0).trans rfl; have hfz28_0 := blk_frozen BK390.out 0))
                      go_roundg k3
                      case measure => have := HJ2.out; have := HK2.out; have := HK3.out; omega
                      case rel => exact ⟨(wrap64 (x23_2 + 1)), (y398), (.slice Ao27 y398.length co27), (zF), H', ⟨by have := HJ2.out; have := HK2.out; have := HK3.out; omega⟩, ⟨by (with_reducible repeat (first | apply Kd.S_alloc | apply Kd.S_drewN | apply Kd.S_drew)); exact Kd.S_mono (Kd.S_far (p := ⟨gb390, 0, none⟩) (Kd.S_types HO400.out BK390.out (by decide)) (fun _ hk => hk.2) (.slice Ao27 y398.length co27)) (fun _ hk => trivial)⟩, ⟨by (with_reducible repeat (first | refine blk_drewN ?_ _ | refine blk_drew ?_ | refine blk_alloc ?_ _)); refine blk_far ?_ NB387_390.out _; (with_reducible repeat (first | refine blk_drewN ?_ _ | refine blk_drew ?_ | refine blk_alloc ?_ _)); exact BK387.out⟩, ⟨by (with_reducible repeat (first | refine blk_drewN ?_ _ | refine blk_drew ?_ | refine blk_alloc ?_ _)); refine blk_put (cs := #[u391000]) ?_ 0 _ rfl; (with_reducible repeat (first | refine blk_drewN ?_ _ | refine blk_drew ?_ | refine blk_alloc ?_ _)); exact BK390.out⟩, ⟨zH2 HB.out GE387.out GE390.out⟩⟩
                    · rw [if_neg c22] at H
                      exact absurd H (by simp)
            · rw [if_neg c13] at H
              have c13b0 := decide_eq_false c13
              clear c13
              simp only [Option.some.injEq, Prod.mk.injEq] at H
              obtain ⟨rfl, rfl⟩ := H
              have hnb29 := NB390_387.out
              have hnc29 := NB387_390.out
              have hcz30_0 : wr.cell? ⟨gb390, 0, none⟩ = some (u391000) := (blk_cell BK390.out 0).trans rfl
              have hfz30_0 := blk_frozen BK390.out 0
              obtain ⟨Ao31, co31, eo31⟩ := Kd.S_slice HO_391000.out
              subst eo31
              have hcz32_0 : wr.cell? ⟨gb387, 0, none⟩ = some (.slice none 0 0) := (blk_cell BK387.out 0).trans rfl
              have hfz32_0 := blk_frozen BK387.out 0
              go_wp2
              refine bodyPost_ret (results_ct rfl _ _ gb387 41 #[.slice Ao31 x391000_2.length co31] (0, 0) _ rfl (by (with_reducible repeat (first | refine blk_drewN ?_ _ | refine blk_drew ?_ | refine blk_alloc ?_ _)); refine blk_put (cs := #[.slice none 0 0]) ?_ 0 _ rfl; (with_reducible repeat (first | refine blk_drewN ?_ _ | refine blk_drew ?_ | refine blk_alloc ?_ _)); exact BK387.out) Try.underlying41 rfl (by kernel_rfl)) rfl ?_
              exact ⟨_, zE, by (with_reducible repeat (first | apply Kd.S_alloc | apply Kd.S_drewN | apply Kd.S_drew)); exact Kd.S_mono (Kd.S_far (p := ⟨gb387, 0, none⟩) (Kd.S_types HO_391000.out BK387.out (by decide)) (fun _ hk => hk.2) (.slice Ao31 x391000_2.length co31)) (fun _ hk => trivial), zH2 HB.out GE387.out GE390.out⟩

/-! ### slices_Index_bool_bool: function 64 -/
def slices_Index_bool_bool.l0 : Nat → List Bool → Bool → Int → Int → Option (Int)
  | 0, _, _, _, _ => none
  | k + 1, x0, x1, x7, x8 => if x8 < x7 then (if 0 ≤ x8 then (if x8 < (x0.length : Int) then (if (x1 == (rdOf false x0 x8)) = true then (some x8) else (slices_Index_bool_bool.l0 k x0 x1 x7 (wrap64 (x8 + 1)))) else (none)) else (none)) else (some (-1))
def slices_Index_bool_bool.f (k : Nat) (l0 : List Bool) (a1 : Bool) : Option (Int) := slices_Index_bool_bool.l0 k l0 a1 (l0.length : Int) 0
theorem slices_Index_bool_bool.mono_l : ∀ k, (∀ y0 y1 y2 y3, LeO (slices_Index_bool_bool.l0 k y0 y1 y2 y3) (slices_Index_bool_bool.l0 (k + 1) y0 y1 y2 y3))
  | 0 => fun _ _ _ _ r h => by simp [slices_Index_bool_bool.l0] at h
  | k + 1 => by
    have ih0 := slices_Index_bool_bool.mono_l k
    · intro y0 y1 y2 y3
      unfold slices_Index_bool_bool.l0
      repeat' first
      | (with_reducible exact ih0 _ _ _ _)
      | (with_reducible exact LeO.refl _)
      | (with_reducible exact LeO.none _)
      | (with_reducible refine LeO.ite ?_ ?_)
      | (with_reducible refine LeO.bind ?_ (fun _ => ?_))
      | exact ih0 _ _ _ _
      | exact LeO.none _
      | refine LeO.ite ?_ ?_
      | refine LeO.bind ?_ (fun _ => ?_)
theorem slices_Index_bool_bool.mono : ∀ a0 a1 k, LeO (slices_Index_bool_bool.f k a0 a1) (slices_Index_bool_bool.f (k + 1) a0 a1) := by
  intro a0 a1 k
  have ih0 := slices_Index_bool_bool.mono_l k
  unfold slices_Index_bool_bool.f
  repeat' first
      | (with_reducible exact ih0 _ _ _ _)
      | (with_reducible exact LeO.refl _)
      | (with_reducible exact LeO.none _)
      | (with_reducible refine LeO.ite ?_ ?_)
      | (with_reducible refine LeO.bind ?_ (fun _ => ?_))
      | exact ih0 _ _ _ _
      | exact LeO.none _
      | refine LeO.ite ?_ ?_
      | refine LeO.bind ?_ (fun _ => ?_)
set_option maxHeartbeats 8000000 in
set_option maxRecDepth 100000 in
theorem slices_Index_bool_bool.calls (k : Nat) (A0 : Option Addr) (c0 : Nat) (l0 : List Bool) (a1 : Bool) (r : Int) (w : World) (hr0 : Kd.C Kd.bool w A0 l0.length l0) (hc0 : l0.length ≤ c0) (h : slices_Index_bool_bool.f k l0 a1 = some r) :
    Calls Try.prog 64 #[.slice A0 l0.length c0, .bool a1] w fun e w' => e = .returned (.int .i64 r) ∧ Drawn0 w w' := by
  have HR0 := Aside0.mk hr0
  have HC0 := Aside0.mk hc0
  clear hr0 hc0
  have H : (slices_Index_bool_bool.l0 k l0 a1 (l0.length : Int) 0) = some r := h
  clear h
  have H' := Aside0.mk H
  clear H
  go_enter Try.func64, Try.ntmps64
  go_wp2
  go_loopg [8] k (fun kq v8 w' => ∃ (x8_1 : Int), v8 = .int .i64 x8_1 ∧ Aside0 (slices_Index_bool_bool.l0 kq l0 a1 (l0.length : Int) x8_1 = some r) ∧ Aside0 (kq ≤ k) ∧ Drawn0 w w')
  case atStart => exact ⟨(0), (zF), H', ⟨Nat.le_refl _⟩, zD⟩
  case round =>
    clear H'
    try clear p2
    obtain ⟨x8_1, rfl, HA, HK1, ⟨m1, rfl⟩⟩ := hrel
    cases gk with
    | zero => exact absurd HA.out (by simp [slices_Index_bool_bool.l0])
    | succ k1 =>
      have H := HA.out
      clear HA
      simp only [slices_Index_bool_bool.l0] at H
      by_cases c3 : x8_1 < (l0.length : Int)
      · rw [if_pos c3] at H
        have c3b0 := decide_eq_true c3
        clear c3
        by_cases c4 : 0 ≤ x8_1
        · rw [if_pos c4] at H
          have c4b0 := decide_eq_true c4
          clear c4
          by_cases c5 : x8_1 < (l0.length : Int)
          · rw [if_pos c5] at H
            have c5b0 := decide_eq_true c5
            clear c5
            by_cases c6 : (a1 == (rdOf false l0 x8_1)) = true
            · rw [if_pos c6] at H
              have c6b0 : (a1 == (rdOf false l0 x8_1)) = true := c6
              (try (have c6b1 : decide (a1 = (rdOf false l0 x8_1)) = true := by simpa using c6))
              (try (have c6b2 : (a1 == (rdOf false l0 x8_1)) = true := by simpa using c6))
              clear c6
              obtain rfl := Option.some.inj H
              have p401 : 0 ≤ (x8_1 : Int) := of_decide_eq_true (by first | (with_reducible assumption) | assumption)
              have q401 : x8_1 < (l0.length : Int) := of_decide_eq_true (by first | (with_reducible assumption) | assumption)
              obtain ⟨ad401, e401, hx401_0⟩ := Kd.at_bool HR0.out x8_1 p401 q401
              cases e401
              replace p401 := eq_true p401
              replace q401 := eq_true q401
              go_wp2
              go_ret
              exact ⟨zF, zD⟩
            · rw [if_neg c6] at H
              have c6b0 : (a1 == (rdOf false l0 x8_1)) = false := by simpa using c6
              (try (have c6b1 : decide (a1 = (rdOf false l0 x8_1)) = false := by simpa using c6))
              (try (have c6b2 : (a1 == (rdOf false l0 x8_1)) = false := by simpa using c6))
              (try (have c6b3 : ¬ (a1 = (rdOf false l0 x8_1)) := by simpa using c6))
              clear c6
              have H' := Aside0.mk H
              clear H
              have p401 : 0 ≤ (x8_1 : Int) := of_decide_eq_true (by first | (with_reducible assumption) | assumption)
              have q401 : x8_1 < (l0.length : Int) := of_decide_eq_true (by first | (with_reducible assumption) | assumption)
              obtain ⟨ad401, e401, hx401_0⟩ := Kd.at_bool HR0.out x8_1 p401 q401
              cases e401
              replace p401 := eq_true p401
              replace q401 := eq_true q401
              go_wp2
              go_roundg k1
              case measure => have := HK1.out; omega
              case rel => exact ⟨(wrap64 (x8_1 + 1)), (zF), H', ⟨by have := HK1.out; omega⟩, zD⟩
          · rw [if_neg c5] at H
            exact absurd H (by simp)
        · rw [if_neg c4] at H
          exact absurd H (by simp)
      · rw [if_neg c3] at H
        have c3b0 := decide_eq_false c3
        clear c3
        obtain rfl := Option.some.inj H
        go_wp2
        go_ret
        exact ⟨zF, zD⟩

/-! ### slices_Contains_bool_bool: function 42 -/
def slices_Contains_bool_bool.f (k : Nat) (l0 : List Bool) (a1 : Bool) : Option (Bool) := (slices_Index_bool_bool.f k l0 a1).bind fun t402 => (some (decide (t402 ≥ 0)))
theorem slices_Contains_bool_bool.mono : ∀ a0 a1 k, LeO (slices_Contains_bool_bool.f k a0 a1) (slices_Contains_bool_bool.f (k + 1) a0 a1) := by
  intro a0 a1 k
  unfold slices_Contains_bool_bool.f
  repeat' first
      | (with_reducible exact slices_Index_bool_bool.mono _ _ _)
      | (with_reducible exact LeO.refl _)
      | (with_reducible exact LeO.none _)
      | (with_reducible refine LeO.ite ?_ ?_)
      | (with_reducible refine LeO.bind ?_ (fun _ => ?_))
      | exact slices_Index_bool_bool.mono _ _ _
      | exact LeO.none _
      | refine LeO.ite ?_ ?_
      | refine LeO.bind ?_ (fun _ => ?_)
set_option maxHeartbeats 8000000 in
set_option maxRecDepth 100000 in
theorem slices_Contains_bool_bool.calls (k : Nat) (A0 : Option Addr) (c0 : Nat) (l0 : List Bool) (a1 : Bool) (r : Bool) (w : World) (hr0 : Kd.C Kd.bool w A0 l0.length l0) (hc0 : l0.length ≤ c0) (h : slices_Contains_bool_bool.f k l0 a1 = some r) :
    Calls Try.prog 42 #[.slice A0 l0.length c0, .bool a1] w fun e w' => e = .returned (.bool r) ∧ Drawn0 w w' := by
  have HR0 := Aside0.mk hr0
  have HC0 := Aside0.mk hc0
  clear hr0 hc0
  have H : ((slices_Index_bool_bool.f k l0 a1).bind fun t402 => (some (decide (t402 ≥ 0)))) = some r := h
  clear h
  obtain ⟨t402, A3, H⟩ := zb H
  obtain rfl := Option.some.inj H
  go_enter Try.func42, Try.ntmps42
  go_wp2_with (first | ((with_reducible refine gate_callee (f := 64) rfl ?_); refine goesL_ (some 7) rfl rfl Try.func64 (by kernel_rfl) rfl #[.slice A0 l0.length c0, .bool a1] rfl zM ?_; (with_reducible refine (slices_Index_bool_bool.calls k _ _ l0 a1 t402 _ ?side1 ?side2 A3.out).mono ?_); (case side1 => repeat (first | exact HR0.out | (with_reducible refine Kd.C_alloc ?_ _) | (with_reducible refine Kd.C_drewN ?_ _) | (with_reducible refine Kd.C_drew ?_))); (case side2 => exact HC0.out); rintro e w' ⟨rfl, ⟨nd, rfl⟩⟩; refine ⟨_, rfl, ?_⟩))
  go_ret
  exact ⟨zF, zD⟩

/-! ### impl_WonPlaces_1: function 41 -/
def impl_WonPlaces_1.f (k : Nat) (l0 : List Bool) : Option (Bool) := (slices_Contains_bool_bool.f k l0 false).bind fun t403 => (some t403)
theorem impl_WonPlaces_1.mono : ∀ a0 k, LeO (impl_WonPlaces_1.f k a0) (impl_WonPlaces_1.f (k + 1) a0) := by
  intro a0 k
  unfold impl_WonPlaces_1.f
  repeat' first
      | (with_reducible exact slices_Contains_bool_bool.mono _ _ _)
      | (with_reducible exact LeO.refl _)
      | (with_reducible exact LeO.none _)
      | (with_reducible refine LeO.ite ?_ ?_)
      | (with_reducible refine LeO.bind ?_ (fun _ => ?_))
      | exact slices_Contains_bool_bool.mono _ _ _
      | exact LeO.none _
      | refine LeO.ite ?_ ?_
      | refine LeO.bind ?_ (fun _ => ?_)
set_option maxHeartbeats 8000000 in
set_option maxRecDepth 100000 in
theorem impl_WonPlaces_1.calls (k : Nat) (A0 : Option Addr) (c0 : Nat) (l0 : List Bool) (r : Bool) (w : World) (hr0 : Kd.C Kd.bool w A0 l0.length l0) (hc0 : l0.length ≤ c0) (h : impl_WonPlaces_1.f k l0 = some r) :
    Calls Try.prog 41 #[.slice A0 l0.length c0] w fun e w' => e = .returned (.bool r) ∧ Drawn0 w w' := by
  have HR0 := Aside0.mk hr0
  have HC0 := Aside0.mk hc0
  clear hr0 hc0
  have H : ((slices_Contains_bool_bool.f k l0 false).bind fun t403 => (some t403)) = some r := h
  clear h
  obtain ⟨t403, A2, H⟩ := zb H
  obtain rfl := Option.some.inj H
  go_enter Try.func41, Try.ntmps41
  go_wp2_with (first | ((with_reducible refine gate_callee (f := 42) rfl ?_); refine goesL_ (some 4) rfl rfl Try.func42 (by kernel_rfl) rfl #[.slice A0 l0.length c0, .bool false] rfl zM ?_; (with_reducible refine (slices_Contains_bool_bool.calls k _ _ l0 false t403 _ ?side1 ?side2 A2.out).mono ?_); (case side1 => repeat (first | exact HR0.out | (with_reducible refine Kd.C_alloc ?_ _) | (with_reducible refine Kd.C_drewN ?_ _) | (with_reducible refine Kd.C_drew ?_))); (case side2 => exact HC0.out); rintro e w' ⟨rfl, ⟨nd, rfl⟩⟩; refine ⟨_, rfl, ?_⟩))
  go_ret
  exact ⟨zF, zD⟩

/-! ### impl_size_int64_73: function 73 -/
def impl_size_int64_73.f (l0 : List (List Int)) : Option (Int) := some (l0.length : Int)
set_option maxHeartbeats 8000000 in
set_option maxRecDepth 100000 in
theorem impl_size_int64_73.calls (A0 : Option Addr) (c0 : Nat) (l0 : List (List Int)) (r : Int) (w : World) (hr0 : Kd.C (Kd.slice 2 (Kd.int .i64)) w A0 l0.length l0) (hc0 : l0.length ≤ c0) (h : impl_size_int64_73.f l0 = some r) :
    Calls Try.prog 73 #[.slice A0 l0.length c0] w fun e w' => e = .returned (.int .i64 r) ∧ Drawn0 w w' := by
  have HR0 := Aside0.mk hr0
  have HC0 := Aside0.mk hc0
  clear hr0 hc0
  have H : (some (l0.length : Int)) = some r := h
  clear h
  obtain rfl := Option.some.inj H
  go_enter Try.func73, Try.ntmps73
  go_wp2
  go_ret
  exact ⟨zF, zD⟩

/-! ### impl_IsGame: function 63 -/
def impl_IsGame.l0 : Nat → Int → List (List Int) → Int → Int → Option (Bool)
  | 0, _, _, _, _ => none
  | k + 1, x3, x10, x11, x12 => if x12 < x11 then (if 0 ≤ x12 then (if x12 < (x10.length : Int) then ((impl_isRising.f k (rd_L5 x10 x12) (wrap64 (x12 + 1)) (wrap64 (x3 - 1))).bind fun t407 => (if t407 = true then (impl_IsGame.l0 k x3 x10 x11 (wrap64 (x12 + 1))) else (some false))) else (none)) else (none)) else ((impl_within.f x3 1 40).bind fun t408 => (some t408))
def impl_IsGame.f (k : Nat) (l0_0 : List (List Int)) : Option (Bool) := (impl_size_int64_73.f l0_0).bind fun t405 => (impl_IsGame.l0 k t405 l0_0 (l0_0.length : Int) 0)
theorem impl_IsGame.mono_l : ∀ k, (∀ y0 y1 y2 y3, LeO (impl_IsGame.l0 k y0 y1 y2 y3) (impl_IsGame.l0 (k + 1) y0 y1 y2 y3))
  | 0 => fun _ _ _ _ r h => by simp [impl_IsGame.l0] at h
  | k + 1 => by
    have ih0 := impl_IsGame.mono_l k
    · intro y0 y1 y2 y3
      unfold impl_IsGame.l0
      repeat' first
      | (with_reducible exact ih0 _ _ _ _)
      | (with_reducible exact impl_isRising.mono _ _ _ _)
      | (with_reducible exact LeO.refl _)
      | (with_reducible exact LeO.none _)
      | (with_reducible refine LeO.ite ?_ ?_)
      | (with_reducible refine LeO.bind ?_ (fun _ => ?_))
      | exact ih0 _ _ _ _
      | exact impl_isRising.mono _ _ _ _
      | exact LeO.none _
      | refine LeO.ite ?_ ?_
      | refine LeO.bind ?_ (fun _ => ?_)
theorem impl_IsGame.mono : ∀ a0 k, LeO (impl_IsGame.f k a0) (impl_IsGame.f (k + 1) a0) := by
  intro a0 k
  have ih0 := impl_IsGame.mono_l k
  unfold impl_IsGame.f
  repeat' first
      | (with_reducible exact ih0 _ _ _ _)
      | (with_reducible exact impl_isRising.mono _ _ _ _)
      | (with_reducible exact LeO.refl _)
      | (with_reducible exact LeO.none _)
      | (with_reducible refine LeO.ite ?_ ?_)
      | (with_reducible refine LeO.bind ?_ (fun _ => ?_))
      | exact ih0 _ _ _ _
      | exact impl_isRising.mono _ _ _ _
      | exact LeO.none _
      | refine LeO.ite ?_ ?_
      | refine LeO.bind ?_ (fun _ => ?_)
set_option maxHeartbeats 8000000 in
set_option maxRecDepth 100000 in
theorem impl_IsGame.calls (k : Nat) (A0_0 : Option Addr) (c0_0 : Nat) (l0_0 : List (List Int)) (r : Bool) (w : World) (hr0_0 : Kd.C (Kd.slice 2 (Kd.int .i64)) w A0_0 l0_0.length l0_0) (hc0_0 : l0_0.length ≤ c0_0) (h : impl_IsGame.f k l0_0 = some r) :
    Calls Try.prog 63 #[.agg #[.slice A0_0 l0_0.length c0_0]] w fun e w' => e = .returned (.bool r) ∧ Below w.heap.size w w' := by
  have hu41 := Try.underlying41
  have HR0_0 := Aside0.mk hr0_0
  have HC0_0 := Aside0.mk hc0_0
  clear hr0_0 hc0_0
  have HB := Aside0.mk (Below.refl w.heap.size w)
  have H : ((impl_size_int64_73.f l0_0).bind fun t405 => (impl_IsGame.l0 k t405 l0_0 (l0_0.length : Int) 0)) = some r := h
  clear h
  obtain ⟨t405, A2, H⟩ := zb H
  have H' := Aside0.mk H
  clear H
  go_enter Try.func63, Try.ntmps63
  go_wp2_with (first | ((with_reducible refine gate_dst (N := 1) rfl ?_); refine zX 1 #[.slice A0_0 l0_0.length c0_0] 41 ?_; intro gb404 hg w3 hbox hb; refine zA4 (below_step (zH HB.out) hb) (hbox) ((zS hg (below_size (zH HB.out)) : w.heap.size ≤ gb404)) ((zS hg (below_size (zH HB.out)) : w.heap.size ≤ gb404)) ?_; clear HB; intro HB BK404 GW404 GE404; clear hb hbox hg; have hcz4_0 : w3.cell? ⟨gb404, 0, none⟩ = some (.slice A0_0 l0_0.length c0_0) := (blk_cell BK404.out 0).trans rfl; have hfz4_0 := blk_frozen BK404.out 0) | ((with_reducible refine gate_callee (f := 73) rfl ?_); refine goesL_ (some 8) rfl rfl Try.func73 (by kernel_rfl) rfl #[.slice A0_0 l0_0.length c0_0] rfl zM ?_; (with_reducible refine (impl_size_int64_73.calls _ _ l0_0 t405 _ ?side1 ?side2 A2.out).mono ?_); (case side1 => repeat (first | exact (Kd.C_below HR0_0.out HB.out) | (with_reducible refine Kd.C_alloc ?_ _) | (with_reducible refine Kd.C_drewN ?_ _) | (with_reducible refine Kd.C_drew ?_))); (case side2 => exact HC0_0.out); rintro e w' ⟨rfl, ⟨nd, rfl⟩⟩; refine ⟨_, rfl, ?_⟩))
  go_loopg [12] k (fun kq v12 w' => ∃ (x12_1 : Int), v12 = .int .i64 x12_1 ∧ Aside0 (impl_IsGame.l0 kq t405 l0_0 (l0_0.length : Int) x12_1 = some r) ∧ Aside0 (kq ≤ k) ∧ Aside0 (w'.heap[gb404]? = some (.cells #[(.slice A0_0 l0_0.length c0_0)] 41 (0, 0))) ∧ Aside0 (Below w.heap.size w w'))
  case atStart => exact ⟨(0), (zF), H', ⟨Nat.le_refl _⟩, ⟨zB BK404.out⟩, ⟨zH1 HB.out GE404.out⟩⟩
  case round =>
    clear H'
    try clear p2
    try clear hcz4_0
    try clear hfz4_0
    obtain ⟨x12_1, rfl, HA, HK1, BK404, HB⟩ := hrel
    cases gk with
    | zero => exact absurd HA.out (by simp [impl_IsGame.l0])
    | succ k1 =>
      have H := HA.out
      clear HA
      simp only [impl_IsGame.l0] at H
      by_cases c5 : x12_1 < (l0_0.length : Int)
      · rw [if_pos c5] at H
        have c5b0 := decide_eq_true c5
        clear c5
        by_cases c6 : 0 ≤ x12_1
        · rw [if_pos c6] at H
          have c6b0 := decide_eq_true c6
          clear c6
          by_cases c7 : x12_1 < (l0_0.length : Int)
          · rw [if_pos c7] at H
            have c7b0 := decide_eq_true c7
            clear c7
            obtain ⟨t407, A8, H⟩ := zb H
            by_cases c9 : t407 = true
            · subst c9
              have H1 : (impl_IsGame.l0 k1 t405 l0_0 (l0_0.length : Int) (wrap64 (x12_1 + 1))) = some r := by rw [if_pos rfl] at H; exact H
              clear H
              have H := H1
              clear H1
              have H' := Aside0.mk H
              clear H
              have p406 : 0 ≤ (x12_1 : Int) := of_decide_eq_true (by first | (with_reducible assumption) | assumption)
              have q406 : x12_1 < (l0_0.length : Int) := of_decide_eq_true (by first | (with_reducible assumption) | assumption)
              obtain ⟨ad406, A406_0, c406_0, e406, hx406_0, hl406_0, hi406_0⟩ := at_L5 HR0_0.out x12_1 p406 q406
              cases e406
              replace hx406_0 := (HB.out.cell (World.block_lt_of_cell? w _ hx406_0)).trans hx406_0
              have HR406_0 := Aside0.mk hi406_0
              have HC406_0 := Aside0.mk hl406_0
              clear hi406_0 hl406_0
              replace p406 := eq_true p406
              replace q406 := eq_true q406
              go_wp2_with (first | ((with_reducible refine gate_callee (f := 39) rfl ?_); refine goesL_ (some 22) rfl rfl Try.func39 (by kernel_rfl) rfl #[.slice A406_0 (rd_L5 l0_0 x12_1).length c406_0, .int .i64 (wrap64 (x12_1 + 1)), .int .i64 (wrap64 (t405 - 1))] rfl zM ?_; (with_reducible refine (impl_isRising.calls k1 _ _ (rd_L5 l0_0 x12_1) (wrap64 (x12_1 + 1)) (wrap64 (t405 - 1)) true _ ?side1 ?side2 A8.out).mono ?_); (case side1 => repeat (first | exact (Kd.C_below HR406_0.out HB.out) | (with_reducible refine Kd.C_alloc ?_ _) | (with_reducible refine Kd.C_drewN ?_ _) | (with_reducible refine Kd.C_drew ?_))); (case side2 => exact HC406_0.out); rintro e w' ⟨rfl, ⟨nd, rfl⟩⟩; refine ⟨_, rfl, ?_⟩))
              go_roundg k1
              case measure => have := HK1.out; omega
              case rel => exact ⟨(wrap64 (x12_1 + 1)), (zF), H', ⟨by have := HK1.out; omega⟩, ⟨zB BK404.out⟩, ⟨zH1 HB.out GE404.out⟩⟩
            · replace c9 := Bool.eq_false_iff.mpr c9
              subst c9
              have H1 : (some false) = some r := by rw [if_neg (show ¬ (false = true) by decide)] at H; exact H
              clear H
              have H := H1
              clear H1
              obtain rfl := Option.some.inj H
              have p406 : 0 ≤ (x12_1 : Int) := of_decide_eq_true (by first | (with_reducible assumption) | assumption)
              have q406 : x12_1 < (l0_0.length : Int) := of_decide_eq_true (by first | (with_reducible assumption) | assumption)
              obtain ⟨ad406, A406_0, c406_0, e406, hx406_0, hl406_0, hi406_0⟩ := at_L5 HR0_0.out x12_1 p406 q406
              cases e406
              replace hx406_0 := (HB.out.cell (World.block_lt_of_cell? w _ hx406_0)).trans hx406_0
              have HR406_0 := Aside0.mk hi406_0
              have HC406_0 := Aside0.mk hl406_0
              clear hi406_0 hl406_0
              replace p406 := eq_true p406
              replace q406 := eq_true q406
              go_wp2_with (first | ((with_reducible refine gate_callee (f := 39) rfl ?_); refine goesL_ (some 22) rfl rfl Try.func39 (by kernel_rfl) rfl #[.slice A406_0 (rd_L5 l0_0 x12_1).length c406_0, .int .i64 (wrap64 (x12_1 + 1)), .int .i64 (wrap64 (t405 - 1))] rfl zM ?_; (with_reducible refine (impl_isRising.calls k1 _ _ (rd_L5 l0_0 x12_1) (wrap64 (x12_1 + 1)) (wrap64 (t405 - 1)) false _ ?side1 ?side2 A8.out).mono ?_); (case side1 => repeat (first | exact (Kd.C_below HR406_0.out HB.out) | (with_reducible refine Kd.C_alloc ?_ _) | (with_reducible refine Kd.C_drewN ?_ _) | (with_reducible refine Kd.C_drew ?_))); (case side2 => exact HC406_0.out); rintro e w' ⟨rfl, ⟨nd, rfl⟩⟩; refine ⟨_, rfl, ?_⟩))
              go_ret
              exact ⟨zE, zH1 HB.out GE404.out⟩
          · rw [if_neg c7] at H
            exact absurd H (by simp)
        · rw [if_neg c6] at H
          exact absurd H (by simp)
      · rw [if_neg c5] at H
        have c5b0 := decide_eq_false c5
        clear c5
        obtain ⟨t408, A10, H⟩ := zb H
        obtain rfl := Option.some.inj H
        go_wp2_with (first | ((with_reducible refine gate_callee (f := 38) rfl ?_); refine goesL_ (some 26) rfl rfl Try.func38 (by kernel_rfl) rfl #[.int .i64 t405, .int .i64 1, .int .i64 40] rfl zM ?_; (with_reducible refine (impl_within.calls t405 1 40 t408 _ A10.out).mono ?_); rintro e w' ⟨rfl, ⟨nd, rfl⟩⟩; refine ⟨_, rfl, ?_⟩))
        go_ret
        exact ⟨zE, zH1 HB.out GE404.out⟩

/-! ### impl_backward_bool: function 40 -/
mutual
def impl_backward_bool.l0 : Nat → List Bool → Int → List (List Int) → Option (List Bool × Int)
  | 0, _, _, _ => none
  | k + 1, x6, x7, x410000 => if x7 ≥ 0 then (if 0 ≤ x7 then (if x7 < (x410000.length : Int) then (impl_backward_bool.l1 k x6 x7 (([] : List Bool)) (rd_L5 x410000 x7) ((rd_L5 x410000 x7).length : Int) 0 x410000) else (none)) else (none)) else (some (x6, 0))
def impl_backward_bool.l1 : Nat → List Bool → Int → List Bool → List Int → Int → Int → List (List Int) → Option (List Bool × Int)
  | 0, _, _, _, _, _, _, _ => none
  | k + 1, x6, x7, x8, x30, x31, x32, x410000 => if x32 < x31 then (if 0 ≤ x32 then (if x32 < (x30.length : Int) then (if 0 ≤ (rd x30 x32) then (if (rd x30 x32) < (x6.length : Int) then (if x8.length < 140737488355328 then (impl_backward_bool.l1 k x6 x7 (x8 ++ [rdOf false x6 (rd x30 x32)]) x30 x31 (wrap64 (x32 + 1)) x410000) else (none)) else (none)) else (none)) else (none)) else (none)) else ((impl_WonPlaces_1.f k x8).bind fun t423 => (if 0 ≤ x7 then (if x7 < (x6.length : Int) then (impl_backward_bool.l0 k (x6.set (x7 : Int).toNat t423) (wrap64 (x7 - 1)) x410000) else (none)) else (none)))
end
def impl_backward_bool.f (k : Nat) (l0_0 : List (List Int)) : Option (List Bool × Int) := (impl_IsGame.f k l0_0).bind fun t410 => (if t410 = true then (if 0 ≤ (l0_0.length : Int) then (if ((l0_0.length : Int) : Int).toNat ≤ 281474976710656 then ((some (List.replicate ((l0_0.length : Int) : Int).toNat false : List Bool)).bind fun y411 => (impl_backward_bool.l0 k y411 (wrap64 ((y411.length : Int) - 1)) l0_0)) else (none)) else (none)) else (some (([] : List Bool), 1)))
theorem impl_backward_bool.mono_l : ∀ k, (∀ y0 y1 y2, LeO (impl_backward_bool.l0 k y0 y1 y2) (impl_backward_bool.l0 (k + 1) y0 y1 y2)) ∧ (∀ y0 y1 y2 y3 y4 y5 y6, LeO (impl_backward_bool.l1 k y0 y1 y2 y3 y4 y5 y6) (impl_backward_bool.l1 (k + 1) y0 y1 y2 y3 y4 y5 y6))
  | 0 => ⟨fun _ _ _ r h => by simp [impl_backward_bool.l0] at h, fun _ _ _ _ _ _ _ r h => by simp [impl_backward_bool.l1] at h⟩
  | k + 1 => by
    obtain ⟨ih0, ih1⟩ := impl_backward_bool.mono_l k
    refine ⟨?_, ?_⟩
    · intro y0 y1 y2
      unfold impl_backward_bool.l0
      repeat' first
      | (with_reducible exact ih0 _ _ _)
      | (with_reducible exact ih1 _ _ _ _ _ _ _)
      | (with_reducible exact impl_IsGame.mono _ _)
      | (with_reducible exact impl_WonPlaces_1.mono _ _)
      | (with_reducible exact LeO.refl _)
      | (with_reducible exact LeO.none _)
      | (with_reducible refine LeO.ite ?_ ?_)
      | (with_reducible refine LeO.bind ?_ (fun _ => ?_))
      | exact ih0 _ _ _
      | exact ih1 _ _ _ _ _ _ _
      | exact impl_IsGame.mono _ _
      | exact impl_WonPlaces_1.mono _ _
      | exact LeO.none _
      | refine LeO.ite ?_ ?_
      | refine LeO.bind ?_ (fun _ => ?_)
    · intro y0 y1 y2 y3 y4 y5 y6
      unfold impl_backward_bool.l1
      repeat' first
      | (with_reducible exact ih0 _ _ _)
      | (with_reducible exact ih1 _ _ _ _ _ _ _)
      | (with_reducible exact impl_IsGame.mono _ _)
      | (with_reducible exact impl_WonPlaces_1.mono _ _)
      | (with_reducible exact LeO.refl _)
      | (with_reducible exact LeO.none _)
      | (with_reducible refine LeO.ite ?_ ?_)
      | (with_reducible refine LeO.bind ?_ (fun _ => ?_))
      | exact ih0 _ _ _
      | exact ih1 _ _ _ _ _ _ _
      | exact impl_IsGame.mono _ _
      | exact impl_WonPlaces_1.mono _ _
      | exact LeO.none _
      | refine LeO.ite ?_ ?_
      | refine LeO.bind ?_ (fun _ => ?_)
theorem impl_backward_bool.mono : ∀ a0 k, LeO (impl_backward_bool.f k a0) (impl_backward_bool.f (k + 1) a0) := by
  intro a0 k
  obtain ⟨ih0, ih1⟩ := impl_backward_bool.mono_l k
  unfold impl_backward_bool.f
  repeat' first
      | (with_reducible exact ih0 _ _ _)
      | (with_reducible exact ih1 _ _ _ _ _ _ _)
      | (with_reducible exact impl_IsGame.mono _ _)
      | (with_reducible exact impl_WonPlaces_1.mono _ _)
      | (with_reducible exact LeO.refl _)
      | (with_reducible exact LeO.none _)
      | (with_reducible refine LeO.ite ?_ ?_)
      | (with_reducible refine LeO.bind ?_ (fun _ => ?_))
      | exact ih0 _ _ _
      | exact ih1 _ _ _ _ _ _ _
      | exact impl_IsGame.mono _ _
      | exact impl_WonPlaces_1.mono _ _
      | exact LeO.none _
      | refine LeO.ite ?_ ?_
      | refine LeO.bind ?_ (fun _ => ?_)
set_option maxHeartbeats 8000000 in
set_option maxRecDepth 100000 in
theorem impl_backward_bool.calls (k : Nat) (A0_0 : Option Addr) (c0_0 : Nat) (l0_0 : List (List Int)) (r1 : List Bool) (r2 : Int) (w : World) (hr0_0 : Kd.C (Kd.slice 2 (Kd.int .i64)) w A0_0 l0_0.length l0_0) (hc0_0 : l0_0.length ≤ c0_0) (h : impl_backward_bool.f k l0_0 = some (r1, r2)) :
    Calls Try.prog 40 #[.agg #[.slice A0_0 l0_0.length c0_0], .func (.func 41) #[] #[]] w fun e w' => ∃ v0_ : Value, e = .returned (.tuple #[v0_, .int .i64 r2]) ∧ Kd.R Kd.bool 4 w' w.heap.size (fun _ => True) v0_ r1 ∧ Below w.heap.size w w' := by
  have hu41 := Try.underlying41
  have HR0_0 := Aside0.mk hr0_0
  have HC0_0 := Aside0.mk hc0_0
  clear hr0_0 hc0_0
  have HB := Aside0.mk (Below.refl w.heap.size w)
  have H : ((impl_IsGame.f k l0_0).bind fun t410 => (if t410 = true then (if 0 ≤ (l0_0.length : Int) then (if ((l0_0.length : Int) : Int).toNat ≤ 281474976710656 then ((some (List.replicate ((l0_0.length : Int) : Int).toNat false : List Bool)).bind fun y411 => (impl_backward_bool.l0 k y411 (wrap64 ((y411.length : Int) - 1)) l0_0)) else (none)) else (none)) else (some (([] : List Bool), 1)))) = some (r1, r2) := h
  clear h
  obtain ⟨t410, A2, H⟩ := zb H
  by_cases c3 : t410 = true
  · subst c3
    have H1 : (if 0 ≤ (l0_0.length : Int) then (if ((l0_0.length : Int) : Int).toNat ≤ 281474976710656 then ((some (List.replicate ((l0_0.length : Int) : Int).toNat false : List Bool)).bind fun y411 => (impl_backward_bool.l0 k y411 (wrap64 ((y411.length : Int) - 1)) l0_0)) else (none)) else (none)) = some (r1, r2) := by rw [if_pos rfl] at H; exact H
    clear H
    have H := H1
    clear H1
    by_cases c4 : 0 ≤ (l0_0.length : Int)
    · rw [if_pos c4] at H
      have c4b0 := eq_true c4
      have c4b1 := decide_eq_true c4
      clear c4
      by_cases c5 : ((l0_0.length : Int) : Int).toNat ≤ 281474976710656
      · rw [if_pos c5] at H
        have c5b0 := eq_true c5
        have c5b1 := decide_eq_true c5
        clear c5
        obtain ⟨y411, hy411⟩ : ∃ y_ : List Bool, y_ = (List.replicate ((l0_0.length : Int) : Int).toNat false) := ⟨_, rfl⟩
        replace H : (impl_backward_bool.l0 k y411 (wrap64 ((y411.length : Int) - 1)) l0_0) = some (r1, r2) := by first | (rw [hy411]; with_reducible exact H) | (have H2_ := (Option.bind_some _ _).symm.trans H; rw [hy411]; with_reducible exact H2_) | (have H2_ := (Option.bind_some _ _).symm.trans H; with_reducible exact H2_) | with_reducible exact H | (rw [hy411]; exact H) | exact H
        have Ny411 := Aside0.mk hy411
        clear hy411
        have H' := Aside0.mk H
        clear H
        go_enter Try.func40, Try.ntmps40
        go_wp2_with (first | ((with_reducible refine gate_dst (N := 2) rfl ?_); refine zX 2 #[.slice A0_0 l0_0.length c0_0] 41 ?_; intro gb409 hg w6 hbox hb; refine zA4 (below_step (zH HB.out) hb) (hbox) ((zS hg (below_size (zH HB.out)) : w.heap.size ≤ gb409)) ((zS hg (below_size (zH HB.out)) : w.heap.size ≤ gb409)) ?_; clear HB; intro HB BK409 GW409 GE409; clear hb hbox hg; have hcz7_0 : w6.cell? ⟨gb409, 0, none⟩ = some (.slice A0_0 l0_0.length c0_0) := (blk_cell BK409.out 0).trans rfl; have hfz7_0 := blk_frozen BK409.out 0) | ((with_reducible refine gate_callee (f := 63) rfl ?_); refine goesL_ (some 12) rfl rfl Try.func63 (by kernel_rfl) rfl #[.agg #[.slice A0_0 l0_0.length c0_0]] rfl zM ?_; (with_reducible refine (impl_IsGame.calls k _ _ l0_0 true _ ?side1 ?side2 A2.out).mono ?_); (case side1 => repeat (first | exact (Kd.C_below HR0_0.out HB.out) | (with_reducible refine Kd.C_alloc ?_ _) | (with_reducible refine Kd.C_drewN ?_ _) | (with_reducible refine Kd.C_drew ?_))); (case side2 => exact HC0_0.out); rintro e w8 ⟨rfl, hb⟩; refine ⟨_, rfl, ?_⟩; refine zA2 (blk_below (g := gb409) (o := .cells #[.slice A0_0 l0_0.length c0_0] 41 (0, 0)) (zB BK409.out) hb) (below_step (zH1 HB.out GE409.out) hb) ?_; clear BK409 HB; intro BK409 HB; (try clear hb); (try clear hb2); (try clear hk); (try clear hi); have hcz9_0 : w8.cell? ⟨gb409, 0, none⟩ = some (.slice A0_0 l0_0.length c0_0) := (blk_cell BK409.out 0).trans rfl; have hfz9_0 := blk_frozen BK409.out 0) | ((with_reducible refine gate_dst (N := 17) rfl ?_); refine Kd.R_make Kd.bool _ 4 rfl (N := 17) rfl 44 _ _ rfl (l0_0.length : Int) rfl rfl Try.underlying44 (.bool false) 1 info4 rfl (by decide) (by omega) false (ok := fun _ => True) (okp := fun _ => True) rfl (fun _ hk => hk) trivial (of_decide_eq_true (by first | (with_reducible assumption) | assumption)) (Nat.le_trans (Nat.mul_le_mul_right _ (of_decide_eq_true (by first | (with_reducible assumption) | assumption) : (l0_0.length : Int).toNat ≤ 281474976710656)) (by omega)) (Below.refl _ _) (Nat.le_refl _) ?_; intro v412 w10 ho11 hb hg_ hnew_; clear hg_ hnew_; (first | rw [← Ny411.out] at ho11 | (simp only [Int.reduceToNat] at ho11; rw [← Ny411.out] at ho11)); refine zA3 (Kd.R_lower ho11 (below_size (zH1 HB.out GE409.out))) (blk_below (g := gb409) (o := .cells #[.slice A0_0 l0_0.length c0_0] 41 (0, 0)) (zB BK409.out) hb) (below_step (zH1 HB.out GE409.out) hb) ?_; clear BK409 HB; intro HO413 BK409 HB; clear hb ho11; obtain ⟨Ao12, co12, eo12⟩ := Kd.R_slice HO413.out; subst eo12))
        go_loopg [7] k (fun kq v7 w' => ∃ (x6_1 : List Bool) (x7_1 : Int), v7 = .int .i64 x7_1 ∧ Aside0 (impl_backward_bool.l0 kq x6_1 x7_1 l0_0 = some (r1, r2)) ∧ Aside0 (kq ≤ k) ∧ Aside0 (Kd.R Kd.bool 4 w' w.heap.size (fun _ => True) (.slice Ao12 y411.length co12) x6_1) ∧ Aside0 (w'.heap[gb409]? = some (.cells #[(.slice A0_0 l0_0.length c0_0)] 41 (0, 0))) ∧ Aside0 (Below w.heap.size w w'))
        case atStart => exact ⟨(y411), (wrap64 ((y411.length : Int) - 1)), (zF), H', ⟨Nat.le_refl _⟩, ⟨zR HO413.out⟩, ⟨zB BK409.out⟩, ⟨zH1 HB.out GE409.out⟩⟩
        case round =>
          clear H'
          try clear p2
          try clear c3
          try clear c4
          try clear c4b0
          try clear c4b1
          try clear c5
          try clear c5b0
          try clear c5b1
          try clear c6
          try clear p6
          try clear hcz7_0
          try clear hcz9_0
          try clear hfz7_0
          try clear hfz9_0
          obtain ⟨x6_1, x7_1, rfl, HA, HK1, HO_6, BK409, HB⟩ := hrel
          have hl6_1 := (Kd.R_reads' HO_6.out).1
          rw [hl6_1] at HO_6
          (try simp only [hl6_1])
          (try simp only [hl6_1] at BK409)
          cases gk with
          | zero => exact absurd HA.out (by simp [impl_backward_bool.l0])
          | succ k1 =>
            have H := HA.out
            clear HA
            simp only [impl_backward_bool.l0] at H
            by_cases c13 : x7_1 ≥ 0
            · rw [if_pos c13] at H
              have c13b0 := decide_eq_true c13
              clear c13
              obtain ⟨y414, hy414⟩ : ∃ y_ : List Bool, y_ = (([] : List Bool)) := ⟨_, rfl⟩
              replace H : (if 0 ≤ x7_1 then (if x7_1 < (l0_0.length : Int) then (impl_backward_bool.l1 k1 x6_1 x7_1 y414 (rd_L5 l0_0 x7_1) ((rd_L5 l0_0 x7_1).length : Int) 0 l0_0) else (none)) else (none)) = some (r1, r2) := by first | (rw [hy414]; with_reducible exact H) | (have H2_ := (Option.bind_some _ _).symm.trans H; rw [hy414]; with_reducible exact H2_) | (have H2_ := (Option.bind_some _ _).symm.trans H; with_reducible exact H2_) | with_reducible exact H | (rw [hy414]; exact H) | exact H
              have Ny414 := Aside0.mk hy414
              clear hy414
              by_cases c14 : 0 ≤ x7_1
              · rw [if_pos c14] at H
                have c14b0 := decide_eq_true c14
                clear c14
                by_cases c15 : x7_1 < (l0_0.length : Int)
                · rw [if_pos c15] at H
                  have c15b0 := decide_eq_true c15
                  clear c15
                  have H' := Aside0.mk H
                  clear H
                  go_wp2_with (first | ((with_reducible refine gate_dst (N := 25) rfl ?_); refine Kd.R_lit Kd.bool _ 4 ?hg (N := 25) ?hd (xs := ([] : List Bool)) (inner := []) (ok := fun _ => True) (okp := fun _ => True) ?hr ?hp (fun _ hk => hk) trivial (Below.refl _ _) (Nat.le_refl _) (by simp) ?_; (case hd => rfl); (case hg => rfl); (case hr => first | (go_simp; done) | (go_simp; rfl)); (case hp => exact (Reps.none _ _)); intro v415 w16 ho17 hb hg_ hnew_; clear hg_ hnew_; (first | rw [← Ny414.out] at ho17 | (simp only [Int.reduceToNat] at ho17; rw [← Ny414.out] at ho17)); refine zA4 (Kd.R_elder' (zR HO_6.out) (Kd.R_base ho17) hb) (Kd.R_lower (Kd.R_new' ho17 (Kd.R_lt (zR HO_6.out))) (below_size (zH1 HB.out GE409.out))) (blk_below (g := gb409) (o := .cells #[.slice A0_0 l0_0.length c0_0] 41 (0, 0)) (zB BK409.out) hb) (below_step (zH1 HB.out GE409.out) hb) ?_; clear HO_6 BK409 HB; intro HO_6 HO416 BK409 HB; clear hb ho17; have hcz18_0 : w16.cell? ⟨gb409, 0, none⟩ = some (.slice A0_0 l0_0.length c0_0) := (blk_cell BK409.out 0).trans rfl; have hfz18_0 := blk_frozen BK409.out 0; have p417 : 0 ≤ (x7_1 : Int) := of_decide_eq_true (by first | (with_reducible assumption) | assumption); have q417 : x7_1 < (l0_0.length : Int) := of_decide_eq_true (by first | (with_reducible assumption) | assumption); obtain ⟨ad417, A417_0, c417_0, e417, hx417_0, hl417_0, hi417_0⟩ := at_L5 HR0_0.out x7_1 p417 q417; cases e417; replace hx417_0 := (HB.out.cell (World.block_lt_of_cell? w _ hx417_0)).trans hx417_0; have HR417_0 := Aside0.mk hi417_0; have HC417_0 := Aside0.mk hl417_0; clear hi417_0 hl417_0; replace p417 := eq_true p417; replace q417 := eq_true q417))
                  go_loopg [8, 32] k1 (fun kq v8 v32 w' => ∃ (x8_2 : List Bool) (x32_2 : Int), v32 = .int .i64 x32_2 ∧ Aside0 (impl_backward_bool.l1 kq x6_1 x7_1 x8_2 (rd_L5 l0_0 x7_1) ((rd_L5 l0_0 x7_1).length : Int) x32_2 l0_0 = some (r1, r2)) ∧ Aside0 (kq ≤ k1) ∧ Aside0 (Kd.R Kd.bool 4 w' w.heap.size (fun k_ => some k_ ≠ (v8 : Value).ownBlock) (.slice Ao12 x6_1.length co12) x6_1) ∧ Aside0 (Kd.R Kd.bool 4 w' w.heap.size (fun k_ => some k_ ≠ ((.slice Ao12 x6_1.length co12) : Value).ownBlock) v8 x8_2) ∧ Aside0 (w'.heap[gb409]? = some (.cells #[(.slice (some ad417) l0_0.length c0_0)] 41 (0, 0))) ∧ Aside0 (Below w.heap.size w w'))
                  case atStart => exact ⟨(y414), (0), (zF), H', ⟨Nat.le_refl _⟩, ⟨by (try simp only [hl6_1]); exact zRm HO_6.out (fun _ hk => hk.2)⟩, ⟨by (try simp only [hl6_1]); exact zRm HO416.out (fun _ hk => hk.2)⟩, ⟨by (try simp only [hl6_1]); exact zB BK409.out⟩, ⟨zH1 HB.out GE409.out⟩⟩
                  case round =>
                    clear H'
                    try clear c1
                    try clear p2
                    try clear c3
                    try clear c4
                    try clear c4b0
                    try clear c4b1
                    try clear p4
                    try clear q4
                    try clear hx4
                    try clear c5
                    try clear c5b0
                    try clear c5b1
                    try clear c6
                    try clear p6
                    try clear c13
                    try clear c13b0
                    try clear c14
                    try clear c14b0
                    try clear c15
                    try clear c15b0
                    try clear hcz18_0
                    try clear hcz7_0
                    try clear hcz9_0
                    try clear hfz18_0
                    try clear hfz7_0
                    try clear hfz9_0
                    try clear hx417_0
                    try clear p2
                    try clear p417
                    try clear p6
                    try clear q417
                    obtain ⟨x8_2, x32_2, rfl, HA, HK2, HO_6, HO_8, BK409, HB⟩ := hrel
                    cases gk with
                    | zero => exact absurd HA.out (by simp [impl_backward_bool.l1])
                    | succ k2 =>
                      have H := HA.out
                      clear HA
                      simp only [impl_backward_bool.l1] at H
                      by_cases c19 : x32_2 < ((rd_L5 l0_0 x7_1).length : Int)
                      · rw [if_pos c19] at H
                        have c19b0 := decide_eq_true c19
                        clear c19
                        by_cases c20 : 0 ≤ x32_2
                        · rw [if_pos c20] at H
                          have c20b0 := decide_eq_true c20
                          clear c20
                          by_cases c21 : x32_2 < ((rd_L5 l0_0 x7_1).length : Int)
                          · rw [if_pos c21] at H
                            have c21b0 := decide_eq_true c21
                            clear c21
                            by_cases c22 : 0 ≤ (rd (rd_L5 l0_0 x7_1) x32_2)
                            · rw [if_pos c22] at H
                              have c22b0 := decide_eq_true c22
                              clear c22
                              by_cases c23 : (rd (rd_L5 l0_0 x7_1) x32_2) < (x6_1.length : Int)
                              · rw [if_pos c23] at H
                                have c23b0 := decide_eq_true c23
                                clear c23
                                by_cases c24 : x8_2.length < 140737488355328
                                · rw [if_pos c24] at H
                                  have LMc24 := Aside0.mk c24
                                  clear c24
                                  obtain ⟨y420, hy420⟩ : ∃ y_ : List Bool, y_ = (x8_2 ++ [rdOf false x6_1 (rd (rd_L5 l0_0 x7_1) x32_2)]) := ⟨_, rfl⟩
                                  replace H : (impl_backward_bool.l1 k2 x6_1 x7_1 y420 (rd_L5 l0_0 x7_1) ((rd_L5 l0_0 x7_1).length : Int) (wrap64 (x32_2 + 1)) l0_0) = some (r1, r2) := by first | (rw [hy420]; with_reducible exact H) | (have H2_ := (Option.bind_some _ _).symm.trans H; rw [hy420]; with_reducible exact H2_) | (have H2_ := (Option.bind_some _ _).symm.trans H; with_reducible exact H2_) | with_reducible exact H | (rw [hy420]; exact H) | exact H
                                  have Ny420 := Aside0.mk hy420
                                  clear hy420
                                  have H' := Aside0.mk H
                                  clear H
                                  have p418 : 0 ≤ (x32_2 : Int) := of_decide_eq_true (by first | (with_reducible assumption) | assumption)
                                  have q418 : x32_2 < ((rd_L5 l0_0 x7_1).length : Int) := of_decide_eq_true (by first | (with_reducible assumption) | assumption)
                                  obtain ⟨ad418, e418, hx418_0⟩ := Kd.at_int HR417_0.out x32_2 p418 q418
                                  cases e418
                                  replace hx418_0 := (HB.out.cell (World.block_lt_of_cell? w _ hx418_0)).trans hx418_0
                                  replace p418 := eq_true p418
                                  replace q418 := eq_true q418
                                  have p419 : 0 ≤ ((rd (rd_L5 l0_0 x7_1) x32_2) : Int) := of_decide_eq_true (by first | (with_reducible assumption) | assumption)
                                  have q419 : (rd (rd_L5 l0_0 x7_1) x32_2) < (x6_1.length : Int) := of_decide_eq_true (by first | (with_reducible assumption) | assumption)
                                  obtain ⟨ad419, e419, hx419_0⟩ := Kd.at_bool (Kd.R_reads' HO_6.out).2.2 (rd (rd_L5 l0_0 x7_1) x32_2) p419 q419
                                  cases e419
                                  replace p419 := eq_true p419
                                  replace q419 := eq_true q419
                                  go_wp2_with (first | ((with_reducible refine gate_builtin (b := .append) (xs := #[.tmp 36, .tmp 41]) rfl ?_); at_builtin; refine Kd.R_append Kd.bool (w0 := w) w.heap.size rfl (.tmp 36) (.tmp 41) 44 4 (.bool false) 1 rfl Try.underlying44 info4 rfl (by decide) (by omega) u8 x8_2 (rdOf false x6_1 (rd (rd_L5 l0_0 x7_1) x32_2)) [.bool (rdOf false x6_1 (rd (rd_L5 l0_0 x7_1) x32_2))] (fun k_ => some k_ ≠ (.slice (some ad419) x6_1.length co12 : Value).ownBlock) (fun _ => False) rfl rfl ?aP (fun _ hk => hk.elim) ?aF ?aO ?aB ?aS ?aL ?_; (case aP => exact rfl); (case aB => exact (zH1 HB.out GE409.out)); (case aF => exact (fun k_ hk => Kd.fresh' (Kd.R_lt (zR HO_6.out)) k_ hk)); (case aO => exact (zR HO_8.out)); (case aS => exact (below_size (zH1 HB.out GE409.out))); (case aL => have := LMc24.out; omega); intro v421 w25 ho hb hg hat; rw [← Ny420.out] at ho; refine zA4 (Kd.R_after (ok := (fun _ => True)) (zRm HO_6.out (fun _ hk => ⟨trivial, hk⟩)) hg hat) (blk_grown (g := gb409) (o := .cells #[.slice (some ad417) l0_0.length c0_0] 41 (0, 0)) (zB BK409.out) hg (Kd.R_ne HO_8.out BK409.out (by decide))) (hb) (ho) ?_; clear HO_6 BK409 HB HO_8; intro HO_6 BK409 HB HO422; clear ho hb hg hat))
                                  go_roundg k2
                                  case measure => have := HK1.out; have := HK2.out; omega
                                  case rel => exact ⟨(y420), (wrap64 (x32_2 + 1)), (zF), H', ⟨by have := HK1.out; have := HK2.out; omega⟩, ⟨by (try simp only [hl6_1]); exact zRm HO_6.out (fun _ hk => hk.2)⟩, ⟨by (try simp only [hl6_1]); exact zR HO422.out⟩, ⟨by (try simp only [hl6_1]); exact zB BK409.out⟩, ⟨zH1 HB.out GE409.out⟩⟩
                                · rw [if_neg c24] at H
                                  exact absurd H (by simp)
                              · rw [if_neg c23] at H
                                exact absurd H (by simp)
                            · rw [if_neg c22] at H
                              exact absurd H (by simp)
                          · rw [if_neg c21] at H
                            exact absurd H (by simp)
                        · rw [if_neg c20] at H
                          exact absurd H (by simp)
                      · rw [if_neg c19] at H
                        have c19b0 := decide_eq_false c19
                        clear c19
                        obtain ⟨t423, A26, H⟩ := zb H
                        by_cases c27 : 0 ≤ x7_1
                        · rw [if_pos c27] at H
                          have c27b0 := decide_eq_true c27
                          clear c27
                          by_cases c28 : x7_1 < (x6_1.length : Int)
                          · rw [if_pos c28] at H
                            have c28b0 := decide_eq_true c28
                            clear c28
                            obtain ⟨y424, hy424⟩ : ∃ y_ : List Bool, y_ = (x6_1.set (x7_1 : Int).toNat t423) := ⟨_, rfl⟩
                            replace H : (impl_backward_bool.l0 k2 y424 (wrap64 (x7_1 - 1)) l0_0) = some (r1, r2) := by first | (rw [hy424]; with_reducible exact H) | (have H2_ := (Option.bind_some _ _).symm.trans H; rw [hy424]; with_reducible exact H2_) | (have H2_ := (Option.bind_some _ _).symm.trans H; with_reducible exact H2_) | with_reducible exact H | (rw [hy424]; exact H) | exact H
                            have Ny424 := Aside0.mk hy424
                            clear hy424
                            have H' := Aside0.mk H
                            clear H
                            obtain ⟨Ao30, co30, eo30⟩ := Kd.R_slice HO_8.out
                            subst eo30
                            go_wp2_with (first | (go_at_call 41; (with_reducible refine (impl_WonPlaces_1.calls k2 _ _ x8_2 t423 _ ?side1 ?side2 A26.out).mono ?_); (case side1 => repeat (first | exact (Kd.R_reads' HO_8.out).2.2 | (with_reducible refine Kd.C_alloc ?_ _) | (with_reducible refine Kd.C_drewN ?_ _) | (with_reducible refine Kd.C_drew ?_))); (case side2 => exact (Kd.R_reads' HO_8.out).2.1); rintro e w' ⟨rfl, ⟨nd, rfl⟩⟩; (try (rw [drewN_self wr]; generalize hq_ : World.drewN wr _ = wr; have n0_ : Aside0 (Kd.R Kd.bool 4 wr w.heap.size (fun k_ => some k_ ≠ (.slice Ao30 x8_2.length co30 : Value).ownBlock) (.slice Ao12 x6_1.length co12) x6_1) := ⟨by rw [← hq_]; exact (zR HO_6.out)⟩; have n1_ : Aside0 (Kd.R Kd.bool 4 wr w.heap.size (fun k_ => some k_ ≠ (.slice Ao12 x6_1.length co12 : Value).ownBlock) (.slice Ao30 x8_2.length co30) x8_2) := ⟨by rw [← hq_]; exact (zR HO_8.out)⟩; have n2_ : Aside0 (wr.heap[gb409]? = some (.cells #[.slice (some ad417) l0_0.length c0_0] 41 (0, 0))) := ⟨by rw [← hq_]; exact (zB BK409.out)⟩; have n3_ : Aside0 (Below w.heap.size w wr) := ⟨by rw [← hq_]; exact (zH1 HB.out GE409.out)⟩; clear HO_6 HO_8 BK409 HB hq_; have HO_6 := n0_; have HO_8 := n1_; have BK409 := n2_; have HB := n3_; clear n0_ n1_ n2_ n3_)); have p29 : 0 ≤ (x7_1 : Int) := of_decide_eq_true (by first | (with_reducible assumption) | assumption); have q29 : (x7_1 : Int) < ((x6_1.length : Int) : Int) := of_decide_eq_true (by first | (with_reducible assumption) | assumption); obtain ⟨go29, co29, eo29, gb29, gl29, cl29, HG29⟩ := Kd.R_form HO_6.out (by omega); (first | cases eo29 | (injection eo29 with ea_ en_ ec_; (first | subst ea_ | (injection ea_ with ea_; subst ea_)); subst ec_; clear en_)); have GB29 := Aside0.mk gb29; have GG29 := Aside0.mk HG29; clear gb29 gl29 HG29; obtain ⟨hx29_0, hf29_0⟩ := Kd.R_celln false HO_6.out (x7_1 : Int) p29 q29; replace p29 := eq_true p29; replace q29 := eq_true q29; obtain ⟨hy31_, hz31_⟩ := Kd.R_celln false HO_6.out (x7_1 : Int) (of_decide_eq_true (by first | (with_reducible assumption) | assumption)) (of_decide_eq_true (by first | (with_reducible assumption) | assumption)); have HP31 := Kd.R_putg HO_6.out (x7_1 : Int) t423) | ((with_reducible refine gate_store (t := 4) (p := 49) rfl ?_); refine store_event (t := 4) (p := 49) (v := ?vo_w32) (w1 := (wr.setCell ⟨go29, (x7_1 : Int).toNat, none⟩ (.bool t423))) ?hg ?ho ?hn ?hr ?_; (case ho => rfl); (case hg => rfl); (case hn => rfl); (case hr => first | (go_simp; done) | (go_simp; rfl)); intro w32 hw; have hg : wr.grownBy w32 (some go29) := (by rw [hw]; exact HP31.2); have hp_ : Kd.R Kd.bool 4 w32 w.heap.size (fun k_ => some k_ ≠ (.slice Ao30 x8_2.length co30 : Value).ownBlock) (.slice (some ⟨go29, 0, none⟩) x6_1.length co12) y424 := (by rw [hw, Ny424.out]; exact HP31.1); clear HP31; refine zA4 (hp_) (Kd.R_after (v := (.slice (some ⟨go29, 0, none⟩) x6_1.length co12)) (v1 := (.slice (some ⟨go29, 0, none⟩) x6_1.length co12)) (ok := (fun _ => True)) (zRm HO_8.out (fun _ hk => ⟨trivial, hk⟩)) hg (.inl rfl)) (blk_grown (g := gb409) (o := .cells #[.slice (some ad417) l0_0.length c0_0] 41 (0, 0)) (zB BK409.out) hg (Kd.R_ne HO_6.out BK409.out (by decide))) ((by rw [hw]; exact below_set (HB.out) GB29.out : Below w.heap.size w w32)) ?_; clear HO_6 HO_8 BK409 HB; intro HO_6 HO_8 BK409 HB; clear hg hw hp_))
                            (try simp only [← hl6_1])
                            go_roundg k2
                            case measure => have := HK1.out; have := HK2.out; omega
                            case rel => exact ⟨(y424), (wrap64 (x7_1 - 1)), (zF), H', ⟨by have := HK1.out; have := HK2.out; omega⟩, ⟨by (try simp only [hl6_1]); exact zRm HO_6.out (fun _ hk => trivial)⟩, ⟨by (try simp only [hl6_1]); exact zB BK409.out⟩, ⟨zH1 HB.out GE409.out⟩⟩
                          · rw [if_neg c28] at H
                            exact absurd H (by simp)
                        · rw [if_neg c27] at H
                          exact absurd H (by simp)
                · rw [if_neg c15] at H
                  exact absurd H (by simp)
              · rw [if_neg c14] at H
                exact absurd H (by simp)
            · rw [if_neg c13] at H
              have c13b0 := decide_eq_false c13
              clear c13
              simp only [Option.some.injEq, Prod.mk.injEq] at H
              obtain ⟨rfl, rfl⟩ := H
              go_wp2
              go_ret2
              exact ⟨_, zE, by (with_reducible repeat (first | apply Kd.R_alloc | apply Kd.R_drewN | apply Kd.R_drew)); exact HO_6.out, zH1 HB.out GE409.out⟩
      · rw [if_neg c5] at H
        exact absurd H (by simp)
    · rw [if_neg c4] at H
      exact absurd H (by simp)
  · replace c3 := Bool.eq_false_iff.mpr c3
    subst c3
    have H1 : (some (([] : List Bool), 1)) = some (r1, r2) := by rw [if_neg (show ¬ (false = true) by decide)] at H; exact H
    clear H
    have H := H1
    clear H1
    simp only [Option.some.injEq, Prod.mk.injEq] at H
    obtain ⟨rfl, rfl⟩ := H
    go_enter Try.func40, Try.ntmps40
    go_wp2_with (first | ((with_reducible refine gate_dst (N := 2) rfl ?_); refine zX 2 #[.slice A0_0 l0_0.length c0_0] 41 ?_; intro gb409 hg w33 hbox hb; refine zA4 (below_step (zH HB.out) hb) (hbox) ((zS hg (below_size (zH HB.out)) : w.heap.size ≤ gb409)) ((zS hg (below_size (zH HB.out)) : w.heap.size ≤ gb409)) ?_; clear HB; intro HB BK409 GW409 GE409; clear hb hbox hg; have hcz34_0 : w33.cell? ⟨gb409, 0, none⟩ = some (.slice A0_0 l0_0.length c0_0) := (blk_cell BK409.out 0).trans rfl; have hfz34_0 := blk_frozen BK409.out 0) | ((with_reducible refine gate_callee (f := 63) rfl ?_); refine goesL_ (some 12) rfl rfl Try.func63 (by kernel_rfl) rfl #[.agg #[.slice A0_0 l0_0.length c0_0]] rfl zM ?_; (with_reducible refine (impl_IsGame.calls k _ _ l0_0 false _ ?side1 ?side2 A2.out).mono ?_); (case side1 => repeat (first | exact (Kd.C_below HR0_0.out HB.out) | (with_reducible refine Kd.C_alloc ?_ _) | (with_reducible refine Kd.C_drewN ?_ _) | (with_reducible refine Kd.C_drew ?_))); (case side2 => exact HC0_0.out); rintro e w35 ⟨rfl, hb⟩; refine ⟨_, rfl, ?_⟩; refine zA2 (blk_below (g := gb409) (o := .cells #[.slice A0_0 l0_0.length c0_0] 41 (0, 0)) (zB BK409.out) hb) (below_step (zH1 HB.out GE409.out) hb) ?_; clear BK409 HB; intro BK409 HB; (try clear hb); (try clear hb2); (try clear hk); (try clear hi)))
    go_ret2
    exact ⟨_, zE, by first | exact Kd.R_nil _ _ _ _ _ | exact Kd.N_nil _ _ _ _ _ | exact Kd.V_nil _ _ _ _ _ | exact Kd.Q_nil _ _ _ _ _ | exact Kd.S_nil _ _ _ _ _, zH1 HB.out GE409.out⟩

/-! ### impl_WonPlaces: function 19 -/
def impl_WonPlaces.f (k : Nat) (l0_0 : List (List Int)) : Option (List Bool × Int) := (impl_backward_bool.f k l0_0).bind fun bt426 => (some (bt426.1, bt426.2))
theorem impl_WonPlaces.mono : ∀ a0 k, LeO (impl_WonPlaces.f k a0) (impl_WonPlaces.f (k + 1) a0) := by
  intro a0 k
  unfold impl_WonPlaces.f
  repeat' first
      | (with_reducible exact impl_backward_bool.mono _ _)
      | (with_reducible exact LeO.refl _)
      | (with_reducible exact LeO.none _)
      | (with_reducible refine LeO.ite ?_ ?_)
      | (with_reducible refine LeO.bind ?_ (fun _ => ?_))
      | exact impl_backward_bool.mono _ _
      | exact LeO.none _
      | refine LeO.ite ?_ ?_
      | refine LeO.bind ?_ (fun _ => ?_)
set_option maxHeartbeats 8000000 in
set_option maxRecDepth 100000 in
theorem impl_WonPlaces.calls (k : Nat) (A0_0 : Option Addr) (c0_0 : Nat) (l0_0 : List (List Int)) (r1 : List Bool) (r2 : Int) (w : World) (hr0_0 : Kd.C (Kd.slice 2 (Kd.int .i64)) w A0_0 l0_0.length l0_0) (hc0_0 : l0_0.length ≤ c0_0) (h : impl_WonPlaces.f k l0_0 = some (r1, r2)) :
    Calls Try.prog 19 #[.agg #[.slice A0_0 l0_0.length c0_0]] w fun e w' => ∃ v0_ : Value, e = .returned (.tuple #[v0_, .int .i64 r2]) ∧ Kd.R Kd.bool 4 w' w.heap.size (fun _ => True) v0_ r1 ∧ Below w.heap.size w w' := by
  have hu41 := Try.underlying41
  have HR0_0 := Aside0.mk hr0_0
  have HC0_0 := Aside0.mk hc0_0
  clear hr0_0 hc0_0
  have HB := Aside0.mk (Below.refl w.heap.size w)
  have H : ((impl_backward_bool.f k l0_0).bind fun bt426 => (some (bt426.1, bt426.2))) = some (r1, r2) := h
  clear h
  obtain ⟨⟨t426, t429⟩, A2, H⟩ := zb H; (try dsimp only at H)
  simp only [Option.some.injEq, Prod.mk.injEq] at H
  obtain ⟨rfl, rfl⟩ := H
  go_enter Try.func19, Try.ntmps19
  go_wp2_with (first | ((with_reducible refine gate_dst (N := 1) rfl ?_); refine zX 1 #[.slice A0_0 l0_0.length c0_0] 41 ?_; intro gb425 hg w3 hbox hb; refine zA4 (below_step (zH HB.out) hb) (hbox) ((zS hg (below_size (zH HB.out)) : w.heap.size ≤ gb425)) ((zS hg (below_size (zH HB.out)) : w.heap.size ≤ gb425)) ?_; clear HB; intro HB BK425 GW425 GE425; clear hb hbox hg; have hcz4_0 : w3.cell? ⟨gb425, 0, none⟩ = some (.slice A0_0 l0_0.length c0_0) := (blk_cell BK425.out 0).trans rfl; have hfz4_0 := blk_frozen BK425.out 0) | ((with_reducible refine gate_callee (f := 40) rfl ?_); refine goesL_ (some 5) rfl rfl Try.func40 (by kernel_rfl) rfl #[.agg #[.slice A0_0 l0_0.length c0_0], .func (.func 41) #[] #[]] rfl zM ?_; (with_reducible refine (impl_backward_bool.calls k _ _ l0_0 t426 t429 _ ?side1 ?side2 A2.out).mono ?_); (case side1 => repeat (first | exact (Kd.C_below HR0_0.out HB.out) | (with_reducible refine Kd.C_alloc ?_ _) | (with_reducible refine Kd.C_drewN ?_ _) | (with_reducible refine Kd.C_drew ?_))); (case side2 => exact HC0_0.out); rintro e w5 ⟨v427, rfl, ho0, hb⟩; refine ⟨_, rfl, ?_⟩; refine zA3 (Kd.R_lower ho0 (below_size (zH1 HB.out GE425.out))) (blk_below (g := gb425) (o := .cells #[.slice A0_0 l0_0.length c0_0] 41 (0, 0)) (zB BK425.out) hb) (below_step (zH1 HB.out GE425.out) hb) ?_; clear BK425 HB; intro HO428 BK425 HB; (try clear hb); (try clear hb2); (try clear hk); (try clear hi); (try clear ho0)))
  go_ret2
  exact ⟨_, zE, by (with_reducible repeat (first | apply Kd.R_alloc | apply Kd.R_drewN | apply Kd.R_drew)); exact HO428.out, zH1 HB.out GE425.out⟩

end Go.Proofs.Ytelfllbjcpndfaa.Q
