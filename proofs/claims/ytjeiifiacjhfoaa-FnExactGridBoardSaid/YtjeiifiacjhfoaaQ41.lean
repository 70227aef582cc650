-- Written by a program of this session (wip/tools/px.sh) over the seat's translation; Lean checks it.
import Derived.Test.YtjeiifiacjhfoaaQ0
import Derived.Test.YtjeiifiacjhfoaaQ1
import Derived.Test.YtjeiifiacjhfoaaQ7
import Derived.Test.YtjeiifiacjhfoaaQ25
import Derived.Test.YtjeiifiacjhfoaaQ28
import Derived.Test.YtjeiifiacjhfoaaOutSort
namespace Go.Proofs.Ytjeiifiacjhfoaa.Q
open Go.RowKit Go.Proofs.YtjeiifiacjhfoaaW.PrintWords Go.Proofs.YtjeiifiacjhfoaaW.PrintLast Go.Proofs.YtjeiifiacjhfoaaW.PrintMore
attribute [local go_sem] max2_int min2_int max_two min_two max_three min_three max_four min_four   -- for this text's walks alone
set_option linter.unusedVariables false
set_option linter.unusedSimpArgs false

/-! ### impl_GridBoard: function 48 -/
mutual
def impl_GridBoard.j0 : Nat → Int → Int → Int → Bool → Option (Int × List Int × Int)
  | 0, _, _, _, _ => none
  | k + 1, x0, x1, x2, x34 => if x34 = true then (some (0, ([] : List Int), 2)) else (impl_GridBoard.l0 k x0 x1 x2 (wrap64 (x0 * x1)) 0 (wrap64 (x0 * x1)) ([] : List Int))
def impl_GridBoard.l0 : Nat → Int → Int → Int → Int → Int → Int → List Int → Option (Int × List Int × Int)
  | 0, _, _, _, _, _, _, _ => none
  | k + 1, x0, x1, x2, x42, x43, x884000, x884001 => if x43 < x42 then ((some (([(⟨1, 0⟩ : S77), (⟨0, 1⟩ : S77), (⟨1, 1⟩ : S77), (⟨(-1), 1⟩ : S77)] : List (S77)) : List (S77))).bind fun y884 => (impl_GridBoard.l1 k x0 x1 x2 x43 x42 x43 y884 (y884.length : Int) 0 x884000 x884001)) else ((slices_Sort_int64_int64.f x884001).bind fun t894 => ((slices_Compact_int64_int64.f t894).bind fun t895 => (if (t895.length : Int) > 100 then (some (0, ([] : List Int), 3)) else (some (x884000, t895, 0)))))
def impl_GridBoard.l1 : Nat → Int → Int → Int → Int → Int → Int → List (S77) → Int → Int → Int → List Int → Option (Int × List Int × Int)
  | 0, _, _, _, _, _, _, _, _, _, _, _ => none
  | k + 1, x0, x1, x2, x9, x42, x43, x50, x51, x52, x884000, x884001 => if x52 < x51 then (if 0 ≤ x52 then (if x52 < (x50.length : Int) then (if x0 = 0 then (none) else ((impl_within.f (wrap64 ((Int.tmod x9 x0) + (wrap64 ((wrap64 (x2 - 1)) * ((rd_T77 x50 x52).f0))))) 0 (wrap64 (x0 - 1))).bind fun t889 => (if t889 = true then ((impl_within.f (wrap64 ((wrap64 (Int.tdiv x9 x0)) + (wrap64 ((wrap64 (x2 - 1)) * ((rd_T77 x50 x52).f1))))) 0 (wrap64 (x1 - 1))).bind fun t890 => (impl_GridBoard.j3 k x0 x1 x2 x9 x42 x43 x50 x51 x52 (!t890) x884000 x884001 ((rd_T77 x50 x52).f0) ((rd_T77 x50 x52).f1))) else (impl_GridBoard.j3 k x0 x1 x2 x9 x42 x43 x50 x51 x52 true x884000 x884001 ((rd_T77 x50 x52).f0) ((rd_T77 x50 x52).f1))))) else (none)) else (none)) else (impl_GridBoard.l0 k x0 x1 x2 x42 (wrap64 (x43 + 1)) x884000 x884001)
def impl_GridBoard.j3 : Nat → Int → Int → Int → Int → Int → Int → List (S77) → Int → Int → Bool → Int → List Int → Int → Int → Option (Int × List Int × Int)
  | 0, _, _, _, _, _, _, _, _, _, _, _, _, _, _ => none
  | k + 1, x0, x1, x2, x9, x42, x43, x50, x51, x52, x85, x884000, x884001, x889000, x889001 => if x85 = true then (impl_GridBoard.l1 k x0 x1 x2 x9 x42 x43 x50 x51 (wrap64 (x52 + 1)) x884000 x884001) else (impl_GridBoard.l2 k x0 x1 x2 x9 0 x42 x43 x50 x51 x52 x2 0 x884000 x884001 x889000 x889001)
def impl_GridBoard.l2 : Nat → Int → Int → Int → Int → Int → Int → Int → List (S77) → Int → Int → Int → Int → Int → List Int → Int → Int → Option (Int × List Int × Int)
  | 0, _, _, _, _, _, _, _, _, _, _, _, _, _, _, _, _ => none
  | k + 1, x0, x1, x2, x9, x14, x42, x43, x50, x51, x52, x86, x87, x884000, x884001, x889000, x889001 => if x87 < x86 then (if 0 ≤ (wrap64 (x9 + (wrap64 (x87 * (wrap64 ((wrap64 (x889001 * x0)) + x889000)))))) then (impl_GridBoard.l2 k x0 x1 x2 x9 (Go.bits .or .i64 x14 (shl .i64 1 (wrap64 (x9 + (wrap64 (x87 * (wrap64 ((wrap64 (x889001 * x0)) + x889000)))))))) x42 x43 x50 x51 x52 x86 (wrap64 (x87 + 1)) x884000 x884001 x889000 x889001) else (none)) else (if x884001.length < 17592186044416 then (impl_GridBoard.l1 k x0 x1 x2 x9 x42 x43 x50 x51 (wrap64 (x52 + 1)) x884000 (x884001 ++ [x14])) else (none))
end
def impl_GridBoard.f (k : Nat) (a0 : Int) (a1 : Int) (a2 : Int) : Option (Int × List Int × Int) := (impl_within.f a0 1 8).bind fun t880 => (if t880 = true then ((impl_within.f a1 1 8).bind fun t881 => (if t881 = true then (if (wrap64 (a0 * a1)) > 16 then (impl_GridBoard.j0 k a0 a1 a2 true) else ((impl_within.f a2 1 8).bind fun t882 => (impl_GridBoard.j0 k a0 a1 a2 (!t882)))) else (impl_GridBoard.j0 k a0 a1 a2 true))) else (impl_GridBoard.j0 k a0 a1 a2 true))
theorem impl_GridBoard.mono_l : ∀ k, (∀ y0 y1 y2 y3, LeO (impl_GridBoard.j0 k y0 y1 y2 y3) (impl_GridBoard.j0 (k + 1) y0 y1 y2 y3)) ∧ (∀ y0 y1 y2 y3 y4 y5 y6, LeO (impl_GridBoard.l0 k y0 y1 y2 y3 y4 y5 y6) (impl_GridBoard.l0 (k + 1) y0 y1 y2 y3 y4 y5 y6)) ∧ (∀ y0 y1 y2 y3 y4 y5 y6 y7 y8 y9 y10, LeO (impl_GridBoard.l1 k y0 y1 y2 y3 y4 y5 y6 y7 y8 y9 y10) (impl_GridBoard.l1 (k + 1) y0 y1 y2 y3 y4 y5 y6 y7 y8 y9 y10)) ∧ (∀ y0 y1 y2 y3 y4 y5 y6 y7 y8 y9 y10 y11 y12 y13, LeO (impl_GridBoard.j3 k y0 y1 y2 y3 y4 y5 y6 y7 y8 y9 y10 y11 y12 y13) (impl_GridBoard.j3 (k + 1) y0 y1 y2 y3 y4 y5 y6 y7 y8 y9 y10 y11 y12 y13)) ∧ (∀ y0 y1 y2 y3 y4 y5 y6 y7 y8 y9 y10 y11 y12 y13 y14 y15, LeO (impl_GridBoard.l2 k y0 y1 y2 y3 y4 y5 y6 y7 y8 y9 y10 y11 y12 y13 y14 y15) (impl_GridBoard.l2 (k + 1) y0 y1 y2 y3 y4 y5 y6 y7 y8 y9 y10 y11 y12 y13 y14 y15))
  | 0 => ⟨fun _ _ _ _ r h => by simp [impl_GridBoard.j0] at h, fun _ _ _ _ _ _ _ r h => by simp [impl_GridBoard.l0] at h, fun _ _ _ _ _ _ _ _ _ _ _ r h => by simp [impl_GridBoard.l1] at h, fun _ _ _ _ _ _ _ _ _ _ _ _ _ _ r h => by simp [impl_GridBoard.j3] at h, fun _ _ _ _ _ _ _ _ _ _ _ _ _ _ _ _ r h => by simp [impl_GridBoard.l2] at h⟩
  | k + 1 => by
    obtain ⟨ih0, ih1, ih2, ih3, ih4⟩ := impl_GridBoard.mono_l k
    refine ⟨?_, ?_, ?_, ?_, ?_⟩
    · intro y0 y1 y2 y3
      unfold impl_GridBoard.j0
      repeat' first
      | (with_reducible exact ih0 _ _ _ _)
      | (with_reducible exact ih1 _ _ _ _ _ _ _)
      | (with_reducible exact ih2 _ _ _ _ _ _ _ _ _ _ _)
      | (with_reducible exact ih3 _ _ _ _ _ _ _ _ _ _ _ _ _ _)
      | (with_reducible exact ih4 _ _ _ _ _ _ _ _ _ _ _ _ _ _ _ _)
      | (with_reducible exact LeO.refl _)
      | (with_reducible exact LeO.none _)
      | (with_reducible refine LeO.ite ?_ ?_)
      | (with_reducible refine LeO.bind ?_ (fun _ => ?_))
      | exact ih0 _ _ _ _
      | exact ih1 _ _ _ _ _ _ _
      | exact ih2 _ _ _ _ _ _ _ _ _ _ _
      | exact ih3 _ _ _ _ _ _ _ _ _ _ _ _ _ _
      | exact ih4 _ _ _ _ _ _ _ _ _ _ _ _ _ _ _ _
      | exact LeO.none _
      | refine LeO.ite ?_ ?_
      | refine LeO.bind ?_ (fun _ => ?_)
    · intro y0 y1 y2 y3 y4 y5 y6
      unfold impl_GridBoard.l0
      repeat' first
      | (with_reducible exact ih0 _ _ _ _)
      | (with_reducible exact ih1 _ _ _ _ _ _ _)
      | (with_reducible exact ih2 _ _ _ _ _ _ _ _ _ _ _)
      | (with_reducible exact ih3 _ _ _ _ _ _ _ _ _ _ _ _ _ _)
      | (with_reducible exact ih4 _ _ _ _ _ _ _ _ _ _ _ _ _ _ _ _)
      | (with_reducible exact LeO.refl _)
      | (with_reducible exact LeO.none _)
      | (with_reducible refine LeO.ite ?_ ?_)
      | (with_reducible refine LeO.bind ?_ (fun _ => ?_))
      | exact ih0 _ _ _ _
      | exact ih1 _ _ _ _ _ _ _
      | exact ih2 _ _ _ _ _ _ _ _ _ _ _
      | exact ih3 _ _ _ _ _ _ _ _ _ _ _ _ _ _
      | exact ih4 _ _ _ _ _ _ _ _ _ _ _ _ _ _ _ _
      | exact LeO.none _
      | refine LeO.ite ?_ ?_
      | refine LeO.bind ?_ (fun _ => ?_)
    · intro y0 y1 y2 y3 y4 y5 y6 y7 y8 y9 y10
      unfold impl_GridBoard.l1
      repeat' first
      | (with_reducible exact ih0 _ _ _ _)
      | (with_reducible exact ih1 _ _ _ _ _ _ _)
      | (with_reducible exact ih2 _ _ _ _ _ _ _ _ _ _ _)
      | (with_reducible exact ih3 _ _ _ _ _ _ _ _ _ _ _ _ _ _)
      | (with_reducible exact ih4 _ _ _ _ _ _ _ _ _ _ _ _ _ _ _ _)
      | (with_reducible exact LeO.refl _)
      | (with_reducible exact LeO.none _)
      | (with_reducible refine LeO.ite ?_ ?_)
      | (with_reducible refine LeO.bind ?_ (fun _ => ?_))
      | exact ih0 _ _ _ _
      | exact ih1 _ _ _ _ _ _ _
      | exact ih2 _ _ _ _ _ _ _ _ _ _ _
      | exact ih3 _ _ _ _ _ _ _ _ _ _ _ _ _ _
      | exact ih4 _ _ _ _ _ _ _ _ _ _ _ _ _ _ _ _
      | exact LeO.none _
      | refine LeO.ite ?_ ?_
      | refine LeO.bind ?_ (fun _ => ?_)
    · intro y0 y1 y2 y3 y4 y5 y6 y7 y8 y9 y10 y11 y12 y13
      unfold impl_GridBoard.j3
      repeat' first
      | (with_reducible exact ih0 _ _ _ _)
      | (with_reducible exact ih1 _ _ _ _ _ _ _)
      | (with_reducible exact ih2 _ _ _ _ _ _ _ _ _ _ _)
      | (with_reducible exact ih3 _ _ _ _ _ _ _ _ _ _ _ _ _ _)
      | (with_reducible exact ih4 _ _ _ _ _ _ _ _ _ _ _ _ _ _ _ _)
      | (with_reducible exact LeO.refl _)
      | (with_reducible exact LeO.none _)
      | (with_reducible refine LeO.ite ?_ ?_)
      | (with_reducible refine LeO.bind ?_ (fun _ => ?_))
      | exact ih0 _ _ _ _
      | exact ih1 _ _ _ _ _ _ _
      | exact ih2 _ _ _ _ _ _ _ _ _ _ _
      | exact ih3 _ _ _ _ _ _ _ _ _ _ _ _ _ _
      | exact ih4 _ _ _ _ _ _ _ _ _ _ _ _ _ _ _ _
      | exact LeO.none _
      | refine LeO.ite ?_ ?_
      | refine LeO.bind ?_ (fun _ => ?_)
    · intro y0 y1 y2 y3 y4 y5 y6 y7 y8 y9 y10 y11 y12 y13 y14 y15
      unfold impl_GridBoard.l2
      repeat' first
      | (with_reducible exact ih0 _ _ _ _)
      | (with_reducible exact ih1 _ _ _ _ _ _ _)
      | (with_reducible exact ih2 _ _ _ _ _ _ _ _ _ _ _)
      | (with_reducible exact ih3 _ _ _ _ _ _ _ _ _ _ _ _ _ _)
      | (with_reducible exact ih4 _ _ _ _ _ _ _ _ _ _ _ _ _ _ _ _)
      | (with_reducible exact LeO.refl _)
      | (with_reducible exact LeO.none _)
      | (with_reducible refine LeO.ite ?_ ?_)
      | (with_reducible refine LeO.bind ?_ (fun _ => ?_))
      | exact ih0 _ _ _ _
      | exact ih1 _ _ _ _ _ _ _
      | exact ih2 _ _ _ _ _ _ _ _ _ _ _
      | exact ih3 _ _ _ _ _ _ _ _ _ _ _ _ _ _
      | exact ih4 _ _ _ _ _ _ _ _ _ _ _ _ _ _ _ _
      | exact LeO.none _
      | refine LeO.ite ?_ ?_
      | refine LeO.bind ?_ (fun _ => ?_)
theorem impl_GridBoard.mono : ∀ a0 a1 a2 k, LeO (impl_GridBoard.f k a0 a1 a2) (impl_GridBoard.f (k + 1) a0 a1 a2) := by
  intro a0 a1 a2 k
  obtain ⟨ih0, ih1, ih2, ih3, ih4⟩ := impl_GridBoard.mono_l k
  unfold impl_GridBoard.f
  repeat' first
      | (with_reducible exact ih0 _ _ _ _)
      | (with_reducible exact ih1 _ _ _ _ _ _ _)
      | (with_reducible exact ih2 _ _ _ _ _ _ _ _ _ _ _)
      | (with_reducible exact ih3 _ _ _ _ _ _ _ _ _ _ _ _ _ _)
      | (with_reducible exact ih4 _ _ _ _ _ _ _ _ _ _ _ _ _ _ _ _)
      | (with_reducible exact LeO.refl _)
      | (with_reducible exact LeO.none _)
      | (with_reducible refine LeO.ite ?_ ?_)
      | (with_reducible refine LeO.bind ?_ (fun _ => ?_))
      | exact ih0 _ _ _ _
      | exact ih1 _ _ _ _ _ _ _
      | exact ih2 _ _ _ _ _ _ _ _ _ _ _
      | exact ih3 _ _ _ _ _ _ _ _ _ _ _ _ _ _
      | exact ih4 _ _ _ _ _ _ _ _ _ _ _ _ _ _ _ _
      | exact LeO.none _
      | refine LeO.ite ?_ ?_
      | refine LeO.bind ?_ (fun _ => ?_)
set_option maxHeartbeats 8000000 in
set_option maxRecDepth 100000 in
theorem impl_GridBoard.calls (k : Nat) (a0 : Int) (a1 : Int) (a2 : Int) (r1 : Int) (r2 : List Int) (r3 : Int) (w : World) (h : impl_GridBoard.f k a0 a1 a2 = some (r1, r2, r3)) :
    Calls Try.prog 48 #[.int .i64 a0, .int .i64 a1, .int .i64 a2] w fun e w' => ∃ v1_ : Value, e = .returned (.tuple #[.agg #[.int .i64 r1, v1_], .int .i64 r3]) ∧ Kd.R (Kd.int .i64) 2 w' w.heap.size (fun _ => True) v1_ r2 ∧ Below w.heap.size w w' := by
  have hu27 := Try.underlying27
  have hu77 := Try.underlying77
  have HB := Aside0.mk (Below.refl w.heap.size w)
  have H : ((impl_within.f a0 1 8).bind fun t880 => (if t880 = true then ((impl_within.f a1 1 8).bind fun t881 => (if t881 = true then (if (wrap64 (a0 * a1)) > 16 then (impl_GridBoard.j0 k a0 a1 a2 true) else ((impl_within.f a2 1 8).bind fun t882 => (impl_GridBoard.j0 k a0 a1 a2 (!t882)))) else (impl_GridBoard.j0 k a0 a1 a2 true))) else (impl_GridBoard.j0 k a0 a1 a2 true))) = some (r1, r2, r3) := h
  clear h
  have HC4 := Aside0.mk H
  clear H
  go_enter Try.func48, Try.ntmps48
  go_upto_region 1 with (first | ((with_reducible refine gate_dst (N := 6) rfl ?_); refine box_event ?hg (N := 6) ?hd (cs := #[.int .i64 0, .slice none 0 0]) (t := 27) ?hr ?_; (case hd => rfl); (case hg => rfl); (case hr => first | (go_simp; done) | (go_simp; rfl)); intro gb879 hg w5 hbox hb; have n0_ := Aside0.mk (below_step (by repeat (first | (with_reducible first | exact HB.out | apply below_alloc | apply pw_below_drewN | apply below_drew1) | exact HB.out)) hb); have n1_ := Aside0.mk (hbox); have n2_ := Aside0.mk ((by rw [hg]; exact (below_size (by repeat (first | (with_reducible first | exact HB.out | apply below_alloc | apply pw_below_drewN | apply below_drew1) | exact HB.out))) : w.heap.size ≤ gb879)); have n3_ := Aside0.mk ((by rw [hg]; exact (below_size (by repeat (first | (with_reducible first | exact HB.out | apply below_alloc | apply pw_below_drewN | apply below_drew1) | exact HB.out))) : w.heap.size ≤ gb879)); clear HB; have HB := n0_; have BK879 := n1_; have GW879 := n2_; have GE879 := n3_; clear n0_ n1_ n2_ n3_; clear hb hbox hg))
  repeat (go_quiet (first | ((with_reducible refine gate_dst (N := 6) rfl ?_); refine box_event ?hg (N := 6) ?hd (cs := #[.int .i64 0, .slice none 0 0]) (t := 27) ?hr ?_; (case hd => rfl); (case hg => rfl); (case hr => first | (go_simp; done) | (go_simp; rfl)); intro gb879 hg w5 hbox hb; have n0_ := Aside0.mk (below_step (by repeat (first | (with_reducible first | exact HB.out | apply below_alloc | apply pw_below_drewN | apply below_drew1) | exact HB.out)) hb); have n1_ := Aside0.mk (hbox); have n2_ := Aside0.mk ((by rw [hg]; exact (below_size (by repeat (first | (with_reducible first | exact HB.out | apply below_alloc | apply pw_below_drewN | apply below_drew1) | exact HB.out))) : w.heap.size ≤ gb879)); have n3_ := Aside0.mk ((by rw [hg]; exact (below_size (by repeat (first | (with_reducible first | exact HB.out | apply below_alloc | apply pw_below_drewN | apply below_drew1) | exact HB.out))) : w.heap.size ≤ gb879)); clear HB; have HB := n0_; have BK879 := n1_; have GW879 := n2_; have GE879 := n3_; clear n0_ n1_ n2_ n3_; clear hb hbox hg)); go_upto_region 1 with (first | ((with_reducible refine gate_dst (N := 6) rfl ?_); refine box_event ?hg (N := 6) ?hd (cs := #[.int .i64 0, .slice none 0 0]) (t := 27) ?hr ?_; (case hd => rfl); (case hg => rfl); (case hr => first | (go_simp; done) | (go_simp; rfl)); intro gb879 hg w5 hbox hb; have n0_ := Aside0.mk (below_step (by repeat (first | (with_reducible first | exact HB.out | apply below_alloc | apply pw_below_drewN | apply below_drew1) | exact HB.out)) hb); have n1_ := Aside0.mk (hbox); have n2_ := Aside0.mk ((by rw [hg]; exact (below_size (by repeat (first | (with_reducible first | exact HB.out | apply below_alloc | apply pw_below_drewN | apply below_drew1) | exact HB.out))) : w.heap.size ≤ gb879)); have n3_ := Aside0.mk ((by rw [hg]; exact (below_size (by repeat (first | (with_reducible first | exact HB.out | apply below_alloc | apply pw_below_drewN | apply below_drew1) | exact HB.out))) : w.heap.size ≤ gb879)); clear HB; have HB := n0_; have BK879 := n1_; have GW879 := n2_; have GE879 := n3_; clear n0_ n1_ n2_ n3_; clear hb hbox hg)))
  (try simp only [Act.put, List.setIfInBounds_toArray, List.set_cons_zero, List.set_cons_succ])
  go_cut [34] (fun v34 wc => ∃ (kq : Nat) (x34_3 : Bool), v34 = .bool x34_3 ∧ Aside0 (impl_GridBoard.j0 kq a0 a1 a2 x34_3 = some (r1, r2, r3)) ∧ Aside0 (kq ≤ k) ∧ Aside0 (wc.heap[gb879]? = some (.cells #[.int .i64 0, (.slice none 0 0)] 27 (0, 0))) ∧ Aside0 (Below w.heap.size w wc))
  case first =>
    have H := HC4.out
    clear HC4
    replace H := Option.bind_eq_some_iff.mp H
    obtain ⟨t880, A60, H⟩ := H
    replace H : (if t880 = true then ((impl_within.f a1 1 8).bind fun t881 => (if t881 = true then (if (wrap64 (a0 * a1)) > 16 then (impl_GridBoard.j0 k a0 a1 a2 true) else ((impl_within.f a2 1 8).bind fun t882 => (impl_GridBoard.j0 k a0 a1 a2 (!t882)))) else (impl_GridBoard.j0 k a0 a1 a2 true))) else (impl_GridBoard.j0 k a0 a1 a2 true)) = some (r1, r2, r3) := H
    have A6 := Aside0.mk A60
    clear A60
    by_cases c7 : t880 = true
    · subst c7
      have H1 : ((impl_within.f a1 1 8).bind fun t881 => (if t881 = true then (if (wrap64 (a0 * a1)) > 16 then (impl_GridBoard.j0 k a0 a1 a2 true) else ((impl_within.f a2 1 8).bind fun t882 => (impl_GridBoard.j0 k a0 a1 a2 (!t882)))) else (impl_GridBoard.j0 k a0 a1 a2 true))) = some (r1, r2, r3) := by rw [if_pos rfl] at H; exact H
      clear H
      have H := H1
      clear H1
      replace H := Option.bind_eq_some_iff.mp H
      obtain ⟨t881, A80, H⟩ := H
      replace H : (if t881 = true then (if (wrap64 (a0 * a1)) > 16 then (impl_GridBoard.j0 k a0 a1 a2 true) else ((impl_within.f a2 1 8).bind fun t882 => (impl_GridBoard.j0 k a0 a1 a2 (!t882)))) else (impl_GridBoard.j0 k a0 a1 a2 true)) = some (r1, r2, r3) := H
      have A8 := Aside0.mk A80
      clear A80
      by_cases c9 : t881 = true
      · subst c9
        have H1 : (if (wrap64 (a0 * a1)) > 16 then (impl_GridBoard.j0 k a0 a1 a2 true) else ((impl_within.f a2 1 8).bind fun t882 => (impl_GridBoard.j0 k a0 a1 a2 (!t882)))) = some (r1, r2, r3) := by rw [if_pos rfl] at H; exact H
        clear H
        have H := H1
        clear H1
        by_cases c10 : (wrap64 (a0 * a1)) > 16
        · rw [if_pos c10] at H
          have c10b0 : decide (16 < (wrap64 (a0 * a1))) = true := decide_eq_true c10
          clear c10
          (first | rw [c10b0] | (simp only [i64_w, i32_w]; rw [c10b0]) | skip)
          have H' := Aside0.mk H
          clear H
          go_wp2_with (first | (go_at_call 53; (with_reducible refine (impl_within.calls a0 1 8 true _ A6.out).mono ?_); rintro e w' ⟨rfl, ⟨nd, rfl⟩⟩; (try first | exact ⟨rfl, _, World.drewN_drewN _ _ _⟩ | exact ⟨rfl, _, Eq.trans (World.drewN_drewN _ _ _) (congrArg (World.drewN _) (Nat.add_assoc _ _ _))⟩)) | (go_at_call 53; (with_reducible refine (impl_within.calls a1 1 8 true _ A8.out).mono ?_); rintro e w' ⟨rfl, ⟨nd, rfl⟩⟩; (try first | exact ⟨rfl, _, World.drewN_drewN _ _ _⟩ | exact ⟨rfl, _, Eq.trans (World.drewN_drewN _ _ _) (congrArg (World.drewN _) (Nat.add_assoc _ _ _))⟩)))
          repeat (go_quiet (first | (go_at_call 53; (with_reducible refine (impl_within.calls a0 1 8 true _ A6.out).mono ?_); rintro e w' ⟨rfl, ⟨nd, rfl⟩⟩; (try first | exact ⟨rfl, _, World.drewN_drewN _ _ _⟩ | exact ⟨rfl, _, Eq.trans (World.drewN_drewN _ _ _) (congrArg (World.drewN _) (Nat.add_assoc _ _ _))⟩)) | (go_at_call 53; (with_reducible refine (impl_within.calls a1 1 8 true _ A8.out).mono ?_); rintro e w' ⟨rfl, ⟨nd, rfl⟩⟩; (try first | exact ⟨rfl, _, World.drewN_drewN _ _ _⟩ | exact ⟨rfl, _, Eq.trans (World.drewN_drewN _ _ _) (congrArg (World.drewN _) (Nat.add_assoc _ _ _))⟩))); try go_wp2_with (first | (go_at_call 53; (with_reducible refine (impl_within.calls a0 1 8 true _ A6.out).mono ?_); rintro e w' ⟨rfl, ⟨nd, rfl⟩⟩; (try first | exact ⟨rfl, _, World.drewN_drewN _ _ _⟩ | exact ⟨rfl, _, Eq.trans (World.drewN_drewN _ _ _) (congrArg (World.drewN _) (Nat.add_assoc _ _ _))⟩)) | (go_at_call 53; (with_reducible refine (impl_within.calls a1 1 8 true _ A8.out).mono ?_); rintro e w' ⟨rfl, ⟨nd, rfl⟩⟩; (try first | exact ⟨rfl, _, World.drewN_drewN _ _ _⟩ | exact ⟨rfl, _, Eq.trans (World.drewN_drewN _ _ _) (congrArg (World.drewN _) (Nat.add_assoc _ _ _))⟩))))
          go_meet
          case rel => exact ⟨_, (true), (by first | rfl | (simp; done) | (simp [*]; done)), H', ⟨by first | omega | exact Nat.le_refl _⟩, ⟨by (with_reducible repeat (first | refine blk_drewN ?_ _ | refine blk_drew ?_ | refine blk_alloc ?_ _)); exact BK879.out⟩, ⟨by repeat (first | (with_reducible first | exact HB.out | apply below_alloc | apply pw_below_drewN | apply below_drew1 | refine below_set ?_ GE879.out) | exact HB.out)⟩⟩
        · rw [if_neg c10] at H
          have c10b0 : decide (16 < (wrap64 (a0 * a1))) = false := decide_eq_false c10
          clear c10
          (first | rw [c10b0] | (simp only [i64_w, i32_w]; rw [c10b0]) | skip)
          replace H := Option.bind_eq_some_iff.mp H
          obtain ⟨t882, A110, H⟩ := H
          replace H : (impl_GridBoard.j0 k a0 a1 a2 (!t882)) = some (r1, r2, r3) := H
          have A11 := Aside0.mk A110
          clear A110
          have H' := Aside0.mk H
          clear H
          go_wp2_with (first | (go_at_call 53; (with_reducible refine (impl_within.calls a0 1 8 true _ A6.out).mono ?_); rintro e w' ⟨rfl, ⟨nd, rfl⟩⟩; (try first | exact ⟨rfl, _, World.drewN_drewN _ _ _⟩ | exact ⟨rfl, _, Eq.trans (World.drewN_drewN _ _ _) (congrArg (World.drewN _) (Nat.add_assoc _ _ _))⟩)) | (go_at_call 53; (with_reducible refine (impl_within.calls a1 1 8 true _ A8.out).mono ?_); rintro e w' ⟨rfl, ⟨nd, rfl⟩⟩; (try first | exact ⟨rfl, _, World.drewN_drewN _ _ _⟩ | exact ⟨rfl, _, Eq.trans (World.drewN_drewN _ _ _) (congrArg (World.drewN _) (Nat.add_assoc _ _ _))⟩)) | (go_at_call 53; (with_reducible refine (impl_within.calls a2 1 8 t882 _ A11.out).mono ?_); rintro e w' ⟨rfl, ⟨nd, rfl⟩⟩; (try first | exact ⟨rfl, _, World.drewN_drewN _ _ _⟩ | exact ⟨rfl, _, Eq.trans (World.drewN_drewN _ _ _) (congrArg (World.drewN _) (Nat.add_assoc _ _ _))⟩)))
          repeat (go_quiet (first | (go_at_call 53; (with_reducible refine (impl_within.calls a0 1 8 true _ A6.out).mono ?_); rintro e w' ⟨rfl, ⟨nd, rfl⟩⟩; (try first | exact ⟨rfl, _, World.drewN_drewN _ _ _⟩ | exact ⟨rfl, _, Eq.trans (World.drewN_drewN _ _ _) (congrArg (World.drewN _) (Nat.add_assoc _ _ _))⟩)) | (go_at_call 53; (with_reducible refine (impl_within.calls a1 1 8 true _ A8.out).mono ?_); rintro e w' ⟨rfl, ⟨nd, rfl⟩⟩; (try first | exact ⟨rfl, _, World.drewN_drewN _ _ _⟩ | exact ⟨rfl, _, Eq.trans (World.drewN_drewN _ _ _) (congrArg (World.drewN _) (Nat.add_assoc _ _ _))⟩)) | (go_at_call 53; (with_reducible refine (impl_within.calls a2 1 8 t882 _ A11.out).mono ?_); rintro e w' ⟨rfl, ⟨nd, rfl⟩⟩; (try first | exact ⟨rfl, _, World.drewN_drewN _ _ _⟩ | exact ⟨rfl, _, Eq.trans (World.drewN_drewN _ _ _) (congrArg (World.drewN _) (Nat.add_assoc _ _ _))⟩))); try go_wp2_with (first | (go_at_call 53; (with_reducible refine (impl_within.calls a0 1 8 true _ A6.out).mono ?_); rintro e w' ⟨rfl, ⟨nd, rfl⟩⟩; (try first | exact ⟨rfl, _, World.drewN_drewN _ _ _⟩ | exact ⟨rfl, _, Eq.trans (World.drewN_drewN _ _ _) (congrArg (World.drewN _) (Nat.add_assoc _ _ _))⟩)) | (go_at_call 53; (with_reducible refine (impl_within.calls a1 1 8 true _ A8.out).mono ?_); rintro e w' ⟨rfl, ⟨nd, rfl⟩⟩; (try first | exact ⟨rfl, _, World.drewN_drewN _ _ _⟩ | exact ⟨rfl, _, Eq.trans (World.drewN_drewN _ _ _) (congrArg (World.drewN _) (Nat.add_assoc _ _ _))⟩)) | (go_at_call 53; (with_reducible refine (impl_within.calls a2 1 8 t882 _ A11.out).mono ?_); rintro e w' ⟨rfl, ⟨nd, rfl⟩⟩; (try first | exact ⟨rfl, _, World.drewN_drewN _ _ _⟩ | exact ⟨rfl, _, Eq.trans (World.drewN_drewN _ _ _) (congrArg (World.drewN _) (Nat.add_assoc _ _ _))⟩))))
          go_meet
          case rel => exact ⟨_, (!t882), (by first | rfl | (simp; done) | (simp [*]; done)), H', ⟨by first | omega | exact Nat.le_refl _⟩, ⟨by (with_reducible repeat (first | refine blk_drewN ?_ _ | refine blk_drew ?_ | refine blk_alloc ?_ _)); exact BK879.out⟩, ⟨by repeat (first | (with_reducible first | exact HB.out | apply below_alloc | apply pw_below_drewN | apply below_drew1 | refine below_set ?_ GE879.out) | exact HB.out)⟩⟩
      · replace c9 := Bool.eq_false_iff.mpr c9
        subst c9
        have H1 : (impl_GridBoard.j0 k a0 a1 a2 true) = some (r1, r2, r3) := by rw [if_neg (show ¬ (false = true) by decide)] at H; exact H
        clear H
        have H := H1
        clear H1
        have H' := Aside0.mk H
        clear H
        go_wp2_with (first | (go_at_call 53; (with_reducible refine (impl_within.calls a0 1 8 true _ A6.out).mono ?_); rintro e w' ⟨rfl, ⟨nd, rfl⟩⟩; (try first | exact ⟨rfl, _, World.drewN_drewN _ _ _⟩ | exact ⟨rfl, _, Eq.trans (World.drewN_drewN _ _ _) (congrArg (World.drewN _) (Nat.add_assoc _ _ _))⟩)) | (go_at_call 53; (with_reducible refine (impl_within.calls a1 1 8 false _ A8.out).mono ?_); rintro e w' ⟨rfl, ⟨nd, rfl⟩⟩; (try first | exact ⟨rfl, _, World.drewN_drewN _ _ _⟩ | exact ⟨rfl, _, Eq.trans (World.drewN_drewN _ _ _) (congrArg (World.drewN _) (Nat.add_assoc _ _ _))⟩)))
        repeat (go_quiet (first | (go_at_call 53; (with_reducible refine (impl_within.calls a0 1 8 true _ A6.out).mono ?_); rintro e w' ⟨rfl, ⟨nd, rfl⟩⟩; (try first | exact ⟨rfl, _, World.drewN_drewN _ _ _⟩ | exact ⟨rfl, _, Eq.trans (World.drewN_drewN _ _ _) (congrArg (World.drewN _) (Nat.add_assoc _ _ _))⟩)) | (go_at_call 53; (with_reducible refine (impl_within.calls a1 1 8 false _ A8.out).mono ?_); rintro e w' ⟨rfl, ⟨nd, rfl⟩⟩; (try first | exact ⟨rfl, _, World.drewN_drewN _ _ _⟩ | exact ⟨rfl, _, Eq.trans (World.drewN_drewN _ _ _) (congrArg (World.drewN _) (Nat.add_assoc _ _ _))⟩))); try go_wp2_with (first | (go_at_call 53; (with_reducible refine (impl_within.calls a0 1 8 true _ A6.out).mono ?_); rintro e w' ⟨rfl, ⟨nd, rfl⟩⟩; (try first | exact ⟨rfl, _, World.drewN_drewN _ _ _⟩ | exact ⟨rfl, _, Eq.trans (World.drewN_drewN _ _ _) (congrArg (World.drewN _) (Nat.add_assoc _ _ _))⟩)) | (go_at_call 53; (with_reducible refine (impl_within.calls a1 1 8 false _ A8.out).mono ?_); rintro e w' ⟨rfl, ⟨nd, rfl⟩⟩; (try first | exact ⟨rfl, _, World.drewN_drewN _ _ _⟩ | exact ⟨rfl, _, Eq.trans (World.drewN_drewN _ _ _) (congrArg (World.drewN _) (Nat.add_assoc _ _ _))⟩))))
        go_meet
        case rel => exact ⟨_, (true), (by first | rfl | (simp; done) | (simp [*]; done)), H', ⟨by first | omega | exact Nat.le_refl _⟩, ⟨by (with_reducible repeat (first | refine blk_drewN ?_ _ | refine blk_drew ?_ | refine blk_alloc ?_ _)); exact BK879.out⟩, ⟨by repeat (first | (with_reducible first | exact HB.out | apply below_alloc | apply pw_below_drewN | apply below_drew1 | refine below_set ?_ GE879.out) | exact HB.out)⟩⟩
    · replace c7 := Bool.eq_false_iff.mpr c7
      subst c7
      have H1 : (impl_GridBoard.j0 k a0 a1 a2 true) = some (r1, r2, r3) := by rw [if_neg (show ¬ (false = true) by decide)] at H; exact H
      clear H
      have H := H1
      clear H1
      have H' := Aside0.mk H
      clear H
      go_wp2_with (first | (go_at_call 53; (with_reducible refine (impl_within.calls a0 1 8 false _ A6.out).mono ?_); rintro e w' ⟨rfl, ⟨nd, rfl⟩⟩; (try first | exact ⟨rfl, _, World.drewN_drewN _ _ _⟩ | exact ⟨rfl, _, Eq.trans (World.drewN_drewN _ _ _) (congrArg (World.drewN _) (Nat.add_assoc _ _ _))⟩)))
      repeat (go_quiet (first | (go_at_call 53; (with_reducible refine (impl_within.calls a0 1 8 false _ A6.out).mono ?_); rintro e w' ⟨rfl, ⟨nd, rfl⟩⟩; (try first | exact ⟨rfl, _, World.drewN_drewN _ _ _⟩ | exact ⟨rfl, _, Eq.trans (World.drewN_drewN _ _ _) (congrArg (World.drewN _) (Nat.add_assoc _ _ _))⟩))); try go_wp2_with (first | (go_at_call 53; (with_reducible refine (impl_within.calls a0 1 8 false _ A6.out).mono ?_); rintro e w' ⟨rfl, ⟨nd, rfl⟩⟩; (try first | exact ⟨rfl, _, World.drewN_drewN _ _ _⟩ | exact ⟨rfl, _, Eq.trans (World.drewN_drewN _ _ _) (congrArg (World.drewN _) (Nat.add_assoc _ _ _))⟩))))
      go_meet
      case rel => exact ⟨_, (true), (by first | rfl | (simp; done) | (simp [*]; done)), H', ⟨by first | omega | exact Nat.le_refl _⟩, ⟨by (with_reducible repeat (first | refine blk_drewN ?_ _ | refine blk_drew ?_ | refine blk_alloc ?_ _)); exact BK879.out⟩, ⟨by repeat (first | (with_reducible first | exact HB.out | apply below_alloc | apply pw_below_drewN | apply below_drew1 | refine below_set ?_ GE879.out) | exact HB.out)⟩⟩
  case rest =>
    clear HC4
    try clear c1
    try clear p2
    try clear c4
    try clear p6
    try clear c7
    try clear c9
    try clear c10
    try clear c10b0
    obtain ⟨kq, x34_3, rfl, HA, HJ3, BK879, HB⟩ := hcut
    cases kq with
    | zero => exact absurd HA.out (by simp [impl_GridBoard.j0])
    | succ kj3 =>
      have H := HA.out
      clear HA
      simp only [impl_GridBoard.j0] at H
      by_cases c12 : x34_3 = true
      · subst c12
        have H1 : (some (0, ([] : List Int), 2)) = some (r1, r2, r3) := by rw [if_pos rfl] at H; exact H
        clear H
        have H := H1
        clear H1
        simp only [Option.some.injEq, Prod.mk.injEq] at H
        obtain ⟨rfl, rfl, rfl⟩ := H
        have hcz13_0 : wc.cell? ⟨gb879, 0, none⟩ = some (.int .i64 0) := (blk_cell BK879.out 0).trans rfl
        have hcz13_1 : wc.cell? ⟨gb879, 1, none⟩ = some (.slice none 0 0) := (blk_cell BK879.out 1).trans rfl
        have hfz13_0 := blk_frozen BK879.out 0
        have hfz13_1 := blk_frozen BK879.out 1
        go_wp2
        repeat (go_quiet (fail); try go_wp2)
        refine bodyPost_ret (results_ct rfl _ _ gb879 27 #[.int .i64 0, .slice none 0 0] (0, 0) _ rfl (by (with_reducible repeat (first | refine blk_drewN ?_ _ | refine blk_drew ?_ | refine blk_alloc ?_ _)); refine blk_put (cs := #[.int .i64 0, .slice none 0 0]) ?_ 1 _ rfl; (with_reducible repeat (first | refine blk_drewN ?_ _ | refine blk_drew ?_ | refine blk_alloc ?_ _)); refine blk_put (cs := #[.int .i64 0, .slice none 0 0]) ?_ 0 _ rfl; (with_reducible repeat (first | refine blk_drewN ?_ _ | refine blk_drew ?_ | refine blk_alloc ?_ _)); exact BK879.out) Try.underlying27 rfl (by kernel_rfl)) rfl ?_
        exact ⟨_, by first | rfl | (simp [errW_none, errW_some] <;> rfl) | (simp [*, errW_none, errW_some] <;> rfl), by first | exact Kd.R_nil _ _ _ _ _ | exact Kd.N_nil _ _ _ _ _ | exact Kd.V_nil _ _ _ _ _ | exact Kd.Q_nil _ _ _ _ _ | exact Kd.S_nil _ _ _ _ _, by repeat (first | (with_reducible first | exact HB.out | apply below_alloc | apply pw_below_drewN | apply below_drew1 | refine below_set ?_ GE879.out) | exact HB.out)⟩
      · replace c12 := Bool.eq_false_iff.mpr c12
        subst c12
        have H1 : (impl_GridBoard.l0 kj3 a0 a1 a2 (wrap64 (a0 * a1)) 0 (wrap64 (a0 * a1)) ([] : List Int)) = some (r1, r2, r3) := by rw [if_neg (show ¬ (false = true) by decide)] at H; exact H
        clear H
        have H := H1
        clear H1
        have H' := Aside0.mk H
        clear H
        go_wp2_with (first | ((with_reducible refine gate_dst (N := 8) rfl ?_); refine box_event ?hg (N := 8) ?hd (cs := #[.int .i64 0, .slice none 0 0]) (t := 27) ?hr ?_; (case hd => rfl); (case hg => rfl); (case hr => first | (go_simp; done) | (go_simp; rfl)); intro gb883 hg w14 hbox hb; have n0_ := Aside0.mk (blk_below (g := gb879) (o := .cells #[.int .i64 0, .slice none 0 0] 27 (0, 0)) (by (with_reducible repeat (first | refine blk_drewN ?_ _ | refine blk_drew ?_ | refine blk_alloc ?_ _)); exact BK879.out) hb); have n1_ := Aside0.mk (below_step (by repeat (first | (with_reducible first | exact HB.out | apply below_alloc | apply pw_below_drewN | apply below_drew1 | refine below_set ?_ GE879.out) | exact HB.out)) hb); have n2_ := Aside0.mk (hbox); have n3_ := Aside0.mk ((by rw [hg]; exact (below_size (by repeat (first | (with_reducible first | exact HB.out | apply below_alloc | apply pw_below_drewN | apply below_drew1 | refine below_set ?_ GE879.out) | exact HB.out))) : w.heap.size ≤ gb883)); have n4_ := Aside0.mk ((by rw [hg]; exact (below_size (by repeat (first | (with_reducible first | exact HB.out | apply below_alloc | apply pw_below_drewN | apply below_drew1 | refine below_set ?_ GE879.out) | exact HB.out))) : w.heap.size ≤ gb883)); have n5_ := Aside0.mk ((by rw [hg]; exact Nat.ne_of_lt (blk_lt (g := gb879) (o := .cells #[.int .i64 0, .slice none 0 0] 27 (0, 0)) (by (with_reducible repeat (first | refine blk_drewN ?_ _ | refine blk_drew ?_ | refine blk_alloc ?_ _)); exact BK879.out)) : gb879 ≠ gb883)); have n6_ := Aside0.mk ((by rw [hg]; exact Nat.ne_of_gt (blk_lt (g := gb879) (o := .cells #[.int .i64 0, .slice none 0 0] 27 (0, 0)) (by (with_reducible repeat (first | refine blk_drewN ?_ _ | refine blk_drew ?_ | refine blk_alloc ?_ _)); exact BK879.out)) : gb883 ≠ gb879)); clear BK879; clear HB; have BK879 := n0_; have HB := n1_; have BK883 := n2_; have GW883 := n3_; have GE883 := n4_; have NB879_883 := n5_; have NB883_879 := n6_; clear n0_ n1_ n2_ n3_ n4_ n5_ n6_; clear hb hbox hg; have hnb15 := NB883_879.out; have hnc15 := NB879_883.out; have hcz16_0 : w14.cell? ⟨gb883, 0, none⟩ = some (.int .i64 0) := (blk_cell BK883.out 0).trans rfl; have hcz16_1 : w14.cell? ⟨gb883, 1, none⟩ = some (.slice none 0 0) := (blk_cell BK883.out 1).trans rfl; have hfz16_0 := blk_frozen BK883.out 0; have hfz16_1 := blk_frozen BK883.out 1))
        repeat (go_quiet (first | ((with_reducible refine gate_dst (N := 8) rfl ?_); refine box_event ?hg (N := 8) ?hd (cs := #[.int .i64 0, .slice none 0 0]) (t := 27) ?hr ?_; (case hd => rfl); (case hg => rfl); (case hr => first | (go_simp; done) | (go_simp; rfl)); intro gb883 hg w14 hbox hb; have n0_ := Aside0.mk (blk_below (g := gb879) (o := .cells #[.int .i64 0, .slice none 0 0] 27 (0, 0)) (by (with_reducible repeat (first | refine blk_drewN ?_ _ | refine blk_drew ?_ | refine blk_alloc ?_ _)); exact BK879.out) hb); have n1_ := Aside0.mk (below_step (by repeat (first | (with_reducible first | exact HB.out | apply below_alloc | apply pw_below_drewN | apply below_drew1 | refine below_set ?_ GE879.out) | exact HB.out)) hb); have n2_ := Aside0.mk (hbox); have n3_ := Aside0.mk ((by rw [hg]; exact (below_size (by repeat (first | (with_reducible first | exact HB.out | apply below_alloc | apply pw_below_drewN | apply below_drew1 | refine below_set ?_ GE879.out) | exact HB.out))) : w.heap.size ≤ gb883)); have n4_ := Aside0.mk ((by rw [hg]; exact (below_size (by repeat (first | (with_reducible first | exact HB.out | apply below_alloc | apply pw_below_drewN | apply below_drew1 | refine below_set ?_ GE879.out) | exact HB.out))) : w.heap.size ≤ gb883)); have n5_ := Aside0.mk ((by rw [hg]; exact Nat.ne_of_lt (blk_lt (g := gb879) (o := .cells #[.int .i64 0, .slice none 0 0] 27 (0, 0)) (by (with_reducible repeat (first | refine blk_drewN ?_ _ | refine blk_drew ?_ | refine blk_alloc ?_ _)); exact BK879.out)) : gb879 ≠ gb883)); have n6_ := Aside0.mk ((by rw [hg]; exact Nat.ne_of_gt (blk_lt (g := gb879) (o := .cells #[.int .i64 0, .slice none 0 0] 27 (0, 0)) (by (with_reducible repeat (first | refine blk_drewN ?_ _ | refine blk_drew ?_ | refine blk_alloc ?_ _)); exact BK879.out)) : gb883 ≠ gb879)); clear BK879; clear HB; have BK879 := n0_; have HB := n1_; have BK883 := n2_; have GW883 := n3_; have GE883 := n4_; have NB879_883 := n5_; have NB883_879 := n6_; clear n0_ n1_ n2_ n3_ n4_ n5_ n6_; clear hb hbox hg; have hnb15 := NB883_879.out; have hnc15 := NB879_883.out; have hcz16_0 : w14.cell? ⟨gb883, 0, none⟩ = some (.int .i64 0) := (blk_cell BK883.out 0).trans rfl; have hcz16_1 : w14.cell? ⟨gb883, 1, none⟩ = some (.slice none 0 0) := (blk_cell BK883.out 1).trans rfl; have hfz16_0 := blk_frozen BK883.out 0; have hfz16_1 := blk_frozen BK883.out 1)); try go_wp2_with (first | ((with_reducible refine gate_dst (N := 8) rfl ?_); refine box_event ?hg (N := 8) ?hd (cs := #[.int .i64 0, .slice none 0 0]) (t := 27) ?hr ?_; (case hd => rfl); (case hg => rfl); (case hr => first | (go_simp; done) | (go_simp; rfl)); intro gb883 hg w14 hbox hb; have n0_ := Aside0.mk (blk_below (g := gb879) (o := .cells #[.int .i64 0, .slice none 0 0] 27 (0, 0)) (by (with_reducible repeat (first | refine blk_drewN ?_ _ | refine blk_drew ?_ | refine blk_alloc ?_ _)); exact BK879.out) hb); have n1_ := Aside0.mk (below_step (by repeat (first | (with_reducible first | exact HB.out | apply below_alloc | apply pw_below_drewN | apply below_drew1 | refine below_set ?_ GE879.out) | exact HB.out)) hb); have n2_ := Aside0.mk (hbox); have n3_ := Aside0.mk ((by rw [hg]; exact (below_size (by repeat (first | (with_reducible first | exact HB.out | apply below_alloc | apply pw_below_drewN | apply below_drew1 | refine below_set ?_ GE879.out) | exact HB.out))) : w.heap.size ≤ gb883)); have n4_ := Aside0.mk ((by rw [hg]; exact (below_size (by repeat (first | (with_reducible first | exact HB.out | apply below_alloc | apply pw_below_drewN | apply below_drew1 | refine below_set ?_ GE879.out) | exact HB.out))) : w.heap.size ≤ gb883)); have n5_ := Aside0.mk ((by rw [hg]; exact Nat.ne_of_lt (blk_lt (g := gb879) (o := .cells #[.int .i64 0, .slice none 0 0] 27 (0, 0)) (by (with_reducible repeat (first | refine blk_drewN ?_ _ | refine blk_drew ?_ | refine blk_alloc ?_ _)); exact BK879.out)) : gb879 ≠ gb883)); have n6_ := Aside0.mk ((by rw [hg]; exact Nat.ne_of_gt (blk_lt (g := gb879) (o := .cells #[.int .i64 0, .slice none 0 0] 27 (0, 0)) (by (with_reducible repeat (first | refine blk_drewN ?_ _ | refine blk_drew ?_ | refine blk_alloc ?_ _)); exact BK879.out)) : gb883 ≠ gb879)); clear BK879; clear HB; have BK879 := n0_; have HB := n1_; have BK883 := n2_; have GW883 := n3_; have GE883 := n4_; have NB879_883 := n5_; have NB883_879 := n6_; clear n0_ n1_ n2_ n3_ n4_ n5_ n6_; clear hb hbox hg; have hnb15 := NB883_879.out; have hnc15 := NB879_883.out; have hcz16_0 : w14.cell? ⟨gb883, 0, none⟩ = some (.int .i64 0) := (blk_cell BK883.out 0).trans rfl; have hcz16_1 : w14.cell? ⟨gb883, 1, none⟩ = some (.slice none 0 0) := (blk_cell BK883.out 1).trans rfl; have hfz16_0 := blk_frozen BK883.out 0; have hfz16_1 := blk_frozen BK883.out 1)))
        go_loopg [43] kj3 (fun kq v43 w' => ∃ (x43_2 : Int) (x884001_2 : List Int) (u884001 : Value), v43 = .int .i64 x43_2 ∧ Aside0 (impl_GridBoard.l0 kq a0 a1 a2 (wrap64 (a0 * a1)) x43_2 (wrap64 (a0 * a1)) x884001_2 = some (r1, r2, r3)) ∧ Aside0 (kq ≤ kj3) ∧ Aside0 (Kd.R (Kd.int .i64) 2 w' w.heap.size (fun _ => True) u884001 x884001_2) ∧ Aside0 (w'.heap[gb879]? = some (.cells #[.int .i64 0, (.slice none 0 0)] 27 (0, 0))) ∧ Aside0 (w'.heap[gb883]? = some (.cells #[.int .i64 (wrap64 (a0 * a1)), u884001] 27 (0, 0))) ∧ Aside0 (Below w.heap.size w w'))
        case atStart => exact ⟨(0), (([] : List Int)), (.slice none 0 0), (by first | rfl | (simp; done) | (simp [*]; done)), H', ⟨Nat.le_refl _⟩, ⟨by first | exact Kd.R_nil _ _ _ _ _ | exact Kd.N_nil _ _ _ _ _ | exact Kd.V_nil _ _ _ _ _ | exact Kd.Q_nil _ _ _ _ _ | exact Kd.S_nil _ _ _ _ _⟩, ⟨by (with_reducible repeat (first | refine blk_drewN ?_ _ | refine blk_drew ?_ | refine blk_alloc ?_ _)); refine blk_far ?_ NB879_883.out _; (with_reducible repeat (first | refine blk_drewN ?_ _ | refine blk_drew ?_ | refine blk_alloc ?_ _)); refine blk_far ?_ NB879_883.out _; (with_reducible repeat (first | refine blk_drewN ?_ _ | refine blk_drew ?_ | refine blk_alloc ?_ _)); exact BK879.out⟩, ⟨by (with_reducible repeat (first | refine blk_drewN ?_ _ | refine blk_drew ?_ | refine blk_alloc ?_ _)); refine blk_put (cs := #[.int .i64 (wrap64 (a0 * a1)), .slice none 0 0]) ?_ 1 _ rfl; (with_reducible repeat (first | refine blk_drewN ?_ _ | refine blk_drew ?_ | refine blk_alloc ?_ _)); refine blk_put (cs := #[.int .i64 0, .slice none 0 0]) ?_ 0 _ rfl; (with_reducible repeat (first | refine blk_drewN ?_ _ | refine blk_drew ?_ | refine blk_alloc ?_ _)); exact BK883.out⟩, ⟨by repeat (first | (with_reducible first | exact HB.out | apply below_alloc | apply pw_below_drewN | apply below_drew1 | refine below_set ?_ GE879.out | refine below_set ?_ GE883.out) | exact HB.out)⟩⟩
        case round =>
          clear H'
          try clear c1
          try clear p2
          try clear c4
          try clear p6
          try clear c7
          try clear c9
          try clear c10
          try clear c10b0
          try clear c12
          try clear c15
          try clear hcz13_0
          try clear hcz13_1
          try clear hcz16_0
          try clear hcz16_1
          try clear hfz13_0
          try clear hfz13_1
          try clear hfz16_0
          try clear hfz16_1
          try clear p2
          try clear p6
          obtain ⟨x43_2, x884001_2, u884001, rfl, HA, HK2, HO_884001, BK879, BK883, HB⟩ := hrel
          cases gk with
          | zero => exact absurd HA.out (by simp [impl_GridBoard.l0])
          | succ k2 =>
            have H := HA.out
            clear HA
            simp only [impl_GridBoard.l0] at H
            by_cases c17 : x43_2 < (wrap64 (a0 * a1))
            · rw [if_pos c17] at H
              have c17b0 : decide (x43_2 < (wrap64 (a0 * a1))) = true := decide_eq_true c17
              clear c17
              obtain ⟨y884, hy884⟩ : ∃ y_ : List (S77), y_ = (([(⟨1, 0⟩ : S77), (⟨0, 1⟩ : S77), (⟨1, 1⟩ : S77), (⟨(-1), 1⟩ : S77)] : List (S77))) := ⟨_, rfl⟩
              replace H : (impl_GridBoard.l1 k2 a0 a1 a2 x43_2 (wrap64 (a0 * a1)) x43_2 y884 (y884.length : Int) 0 (wrap64 (a0 * a1)) x884001_2) = some (r1, r2, r3) := by first | (rw [hy884]; with_reducible exact H) | (have H2_ := (Option.bind_some _ _).symm.trans H; rw [hy884]; with_reducible exact H2_) | (have H2_ := (Option.bind_some _ _).symm.trans H; with_reducible exact H2_) | with_reducible exact H | (rw [hy884]; exact H) | exact H
              have Ny884 := Aside0.mk hy884
              clear hy884
              have H' := Aside0.mk H
              clear H
              go_wp2_with (first | ((with_reducible refine gate_dst (N := 50) rfl ?_); refine Kd.R_lit k77 _ 77 ?hg (N := 50) ?hd (xs := ([(⟨1, 0⟩ : S77), (⟨0, 1⟩ : S77), (⟨1, 1⟩ : S77), (⟨(-1), 1⟩ : S77)] : List (S77))) (inner := [.int .i64 1, .int .i64 0, .int .i64 0, .int .i64 1, .int .i64 1, .int .i64 1, .int .i64 (-1), .int .i64 1]) (ok := fun _ => True) (okp := fun _ => True) ?hr ?hp (fun _ hk => hk) trivial (Below.refl _ _) (Nat.le_refl _) (by simp) ?_; (case hd => rfl); (case hg => rfl); (case hr => first | (go_simp; done) | (go_simp; rfl)); (case hp => exact (Reps.c2 (show Kd.M k77 _ _ _ (⟨1, 0⟩ : S77) [.int .i64 1, .int .i64 0] from (k77_mkM _ _ _ (⟨1, 0⟩ : S77) )) (Reps.c2 (show Kd.M k77 _ _ _ (⟨0, 1⟩ : S77) [.int .i64 0, .int .i64 1] from (k77_mkM _ _ _ (⟨0, 1⟩ : S77) )) (Reps.c2 (show Kd.M k77 _ _ _ (⟨1, 1⟩ : S77) [.int .i64 1, .int .i64 1] from (k77_mkM _ _ _ (⟨1, 1⟩ : S77) )) (Reps.c2 (show Kd.M k77 _ _ _ (⟨(-1), 1⟩ : S77) [.int .i64 (-1), .int .i64 1] from (k77_mkM _ _ _ (⟨(-1), 1⟩ : S77) )) (Reps.none _ _)))))); intro v885 w18 ho19 hb hg_ hnew_; clear hg_ hnew_; (first | rw [← Ny884.out] at ho19 | (simp only [Int.reduceToNat] at ho19; rw [← Ny884.out] at ho19)); have n0_ := Aside0.mk (Kd.R_below (by (with_reducible repeat (first | apply Kd.R_alloc | apply Kd.R_drewN | apply Kd.R_drew)); exact HO_884001.out) hb); have n1_ := Aside0.mk (Kd.R_lower ho19 (below_size (by repeat (first | (with_reducible first | exact HB.out | apply below_alloc | apply pw_below_drewN | apply below_drew1 | refine below_set ?_ GE879.out | refine below_set ?_ GE883.out) | exact HB.out)))); have n2_ := Aside0.mk (blk_below (g := gb879) (o := .cells #[.int .i64 0, .slice none 0 0] 27 (0, 0)) (by (with_reducible repeat (first | refine blk_drewN ?_ _ | refine blk_drew ?_ | refine blk_alloc ?_ _)); exact BK879.out) hb); have n3_ := Aside0.mk (blk_below (g := gb883) (o := .cells #[.int .i64 (wrap64 (a0 * a1)), u884001] 27 (0, 0)) (by (with_reducible repeat (first | refine blk_drewN ?_ _ | refine blk_drew ?_ | refine blk_alloc ?_ _)); exact BK883.out) hb); have n4_ := Aside0.mk (below_step (by repeat (first | (with_reducible first | exact HB.out | apply below_alloc | apply pw_below_drewN | apply below_drew1 | refine below_set ?_ GE879.out | refine below_set ?_ GE883.out) | exact HB.out)) hb); clear HO_884001; clear BK879; clear BK883; clear HB; have HO_884001 := n0_; have HO886 := n1_; have BK879 := n2_; have BK883 := n3_; have HB := n4_; clear n0_ n1_ n2_ n3_ n4_; clear hb ho19; obtain ⟨Ao20, co20, eo20⟩ := Kd.R_slice HO886.out; subst eo20))
              repeat (go_quiet (first | ((with_reducible refine gate_dst (N := 50) rfl ?_); refine Kd.R_lit k77 _ 77 ?hg (N := 50) ?hd (xs := ([(⟨1, 0⟩ : S77), (⟨0, 1⟩ : S77), (⟨1, 1⟩ : S77), (⟨(-1), 1⟩ : S77)] : List (S77))) (inner := [.int .i64 1, .int .i64 0, .int .i64 0, .int .i64 1, .int .i64 1, .int .i64 1, .int .i64 (-1), .int .i64 1]) (ok := fun _ => True) (okp := fun _ => True) ?hr ?hp (fun _ hk => hk) trivial (Below.refl _ _) (Nat.le_refl _) (by simp) ?_; (case hd => rfl); (case hg => rfl); (case hr => first | (go_simp; done) | (go_simp; rfl)); (case hp => exact (Reps.c2 (show Kd.M k77 _ _ _ (⟨1, 0⟩ : S77) [.int .i64 1, .int .i64 0] from (k77_mkM _ _ _ (⟨1, 0⟩ : S77) )) (Reps.c2 (show Kd.M k77 _ _ _ (⟨0, 1⟩ : S77) [.int .i64 0, .int .i64 1] from (k77_mkM _ _ _ (⟨0, 1⟩ : S77) )) (Reps.c2 (show Kd.M k77 _ _ _ (⟨1, 1⟩ : S77) [.int .i64 1, .int .i64 1] from (k77_mkM _ _ _ (⟨1, 1⟩ : S77) )) (Reps.c2 (show Kd.M k77 _ _ _ (⟨(-1), 1⟩ : S77) [.int .i64 (-1), .int .i64 1] from (k77_mkM _ _ _ (⟨(-1), 1⟩ : S77) )) (Reps.none _ _)))))); intro v885 w18 ho19 hb hg_ hnew_; clear hg_ hnew_; (first | rw [← Ny884.out] at ho19 | (simp only [Int.reduceToNat] at ho19; rw [← Ny884.out] at ho19)); have n0_ := Aside0.mk (Kd.R_below (by (with_reducible repeat (first | apply Kd.R_alloc | apply Kd.R_drewN | apply Kd.R_drew)); exact HO_884001.out) hb); have n1_ := Aside0.mk (Kd.R_lower ho19 (below_size (by repeat (first | (with_reducible first | exact HB.out | apply below_alloc | apply pw_below_drewN | apply below_drew1 | refine below_set ?_ GE879.out | refine below_set ?_ GE883.out) | exact HB.out)))); have n2_ := Aside0.mk (blk_below (g := gb879) (o := .cells #[.int .i64 0, .slice none 0 0] 27 (0, 0)) (by (with_reducible repeat (first | refine blk_drewN ?_ _ | refine blk_drew ?_ | refine blk_alloc ?_ _)); exact BK879.out) hb); have n3_ := Aside0.mk (blk_below (g := gb883) (o := .cells #[.int .i64 (wrap64 (a0 * a1)), u884001] 27 (0, 0)) (by (with_reducible repeat (first | refine blk_drewN ?_ _ | refine blk_drew ?_ | refine blk_alloc ?_ _)); exact BK883.out) hb); have n4_ := Aside0.mk (below_step (by repeat (first | (with_reducible first | exact HB.out | apply below_alloc | apply pw_below_drewN | apply below_drew1 | refine below_set ?_ GE879.out | refine below_set ?_ GE883.out) | exact HB.out)) hb); clear HO_884001; clear BK879; clear BK883; clear HB; have HO_884001 := n0_; have HO886 := n1_; have BK879 := n2_; have BK883 := n3_; have HB := n4_; clear n0_ n1_ n2_ n3_ n4_; clear hb ho19; obtain ⟨Ao20, co20, eo20⟩ := Kd.R_slice HO886.out; subst eo20)); try go_wp2_with (first | ((with_reducible refine gate_dst (N := 50) rfl ?_); refine Kd.R_lit k77 _ 77 ?hg (N := 50) ?hd (xs := ([(⟨1, 0⟩ : S77), (⟨0, 1⟩ : S77), (⟨1, 1⟩ : S77), (⟨(-1), 1⟩ : S77)] : List (S77))) (inner := [.int .i64 1, .int .i64 0, .int .i64 0, .int .i64 1, .int .i64 1, .int .i64 1, .int .i64 (-1), .int .i64 1]) (ok := fun _ => True) (okp := fun _ => True) ?hr ?hp (fun _ hk => hk) trivial (Below.refl _ _) (Nat.le_refl _) (by simp) ?_; (case hd => rfl); (case hg => rfl); (case hr => first | (go_simp; done) | (go_simp; rfl)); (case hp => exact (Reps.c2 (show Kd.M k77 _ _ _ (⟨1, 0⟩ : S77) [.int .i64 1, .int .i64 0] from (k77_mkM _ _ _ (⟨1, 0⟩ : S77) )) (Reps.c2 (show Kd.M k77 _ _ _ (⟨0, 1⟩ : S77) [.int .i64 0, .int .i64 1] from (k77_mkM _ _ _ (⟨0, 1⟩ : S77) )) (Reps.c2 (show Kd.M k77 _ _ _ (⟨1, 1⟩ : S77) [.int .i64 1, .int .i64 1] from (k77_mkM _ _ _ (⟨1, 1⟩ : S77) )) (Reps.c2 (show Kd.M k77 _ _ _ (⟨(-1), 1⟩ : S77) [.int .i64 (-1), .int .i64 1] from (k77_mkM _ _ _ (⟨(-1), 1⟩ : S77) )) (Reps.none _ _)))))); intro v885 w18 ho19 hb hg_ hnew_; clear hg_ hnew_; (first | rw [← Ny884.out] at ho19 | (simp only [Int.reduceToNat] at ho19; rw [← Ny884.out] at ho19)); have n0_ := Aside0.mk (Kd.R_below (by (with_reducible repeat (first | apply Kd.R_alloc | apply Kd.R_drewN | apply Kd.R_drew)); exact HO_884001.out) hb); have n1_ := Aside0.mk (Kd.R_lower ho19 (below_size (by repeat (first | (with_reducible first | exact HB.out | apply below_alloc | apply pw_below_drewN | apply below_drew1 | refine below_set ?_ GE879.out | refine below_set ?_ GE883.out) | exact HB.out)))); have n2_ := Aside0.mk (blk_below (g := gb879) (o := .cells #[.int .i64 0, .slice none 0 0] 27 (0, 0)) (by (with_reducible repeat (first | refine blk_drewN ?_ _ | refine blk_drew ?_ | refine blk_alloc ?_ _)); exact BK879.out) hb); have n3_ := Aside0.mk (blk_below (g := gb883) (o := .cells #[.int .i64 (wrap64 (a0 * a1)), u884001] 27 (0, 0)) (by (with_reducible repeat (first | refine blk_drewN ?_ _ | refine blk_drew ?_ | refine blk_alloc ?_ _)); exact BK883.out) hb); have n4_ := Aside0.mk (below_step (by repeat (first | (with_reducible first | exact HB.out | apply below_alloc | apply pw_below_drewN | apply below_drew1 | refine below_set ?_ GE879.out | refine below_set ?_ GE883.out) | exact HB.out)) hb); clear HO_884001; clear BK879; clear BK883; clear HB; have HO_884001 := n0_; have HO886 := n1_; have BK879 := n2_; have BK883 := n3_; have HB := n4_; clear n0_ n1_ n2_ n3_ n4_; clear hb ho19; obtain ⟨Ao20, co20, eo20⟩ := Kd.R_slice HO886.out; subst eo20)))
              go_loopg [52] k2 (fun kq v52 w' => ∃ (x52_3 : Int) (x884001_3 : List Int) (u884001 : Value), v52 = .int .i64 x52_3 ∧ Aside0 (impl_GridBoard.l1 kq a0 a1 a2 x43_2 (wrap64 (a0 * a1)) x43_2 y884 (y884.length : Int) x52_3 (wrap64 (a0 * a1)) x884001_3 = some (r1, r2, r3)) ∧ Aside0 (kq ≤ k2) ∧ Aside0 (Kd.R k77 77 w' w.heap.size (fun _ => True) (.slice Ao20 y884.length co20) y884) ∧ Aside0 (Kd.R (Kd.int .i64) 2 w' w.heap.size (fun _ => True) u884001 x884001_3) ∧ Aside0 (w'.heap[gb879]? = some (.cells #[.int .i64 0, (.slice none 0 0)] 27 (0, 0))) ∧ Aside0 (w'.heap[gb883]? = some (.cells #[.int .i64 (wrap64 (a0 * a1)), u884001] 27 (0, 0))) ∧ Aside0 (Below w.heap.size w w'))
              case atStart => exact ⟨(0), (x884001_2), (u884001), (by first | rfl | (simp; done) | (simp [*]; done)), H', ⟨Nat.le_refl _⟩, ⟨by (with_reducible repeat (first | apply Kd.R_alloc | apply Kd.R_drewN | apply Kd.R_drew)); exact HO886.out⟩, ⟨by (with_reducible repeat (first | apply Kd.R_alloc | apply Kd.R_drewN | apply Kd.R_drew)); exact HO_884001.out⟩, ⟨by (with_reducible repeat (first | refine blk_drewN ?_ _ | refine blk_drew ?_ | refine blk_alloc ?_ _)); exact BK879.out⟩, ⟨by (with_reducible repeat (first | refine blk_drewN ?_ _ | refine blk_drew ?_ | refine blk_alloc ?_ _)); exact BK883.out⟩, ⟨by repeat (first | (with_reducible first | exact HB.out | apply below_alloc | apply pw_below_drewN | apply below_drew1 | refine below_set ?_ GE879.out | refine below_set ?_ GE883.out) | exact HB.out)⟩⟩
              case round =>
                clear H'
                try clear c1
                try clear c2
                try clear p2
                try clear c4
                try clear p6
                try clear c7
                try clear c9
                try clear c10
                try clear c10b0
                try clear c12
                try clear c15
                try clear c17
                try clear c17b0
                try clear hcz13_0
                try clear hcz13_1
                try clear hcz16_0
                try clear hcz16_1
                try clear hfz13_0
                try clear hfz13_1
                try clear hfz16_0
                try clear hfz16_1
                try clear p2
                try clear p6
                obtain ⟨x52_3, x884001_3, u884001, rfl, HA, HK3, HO_50, HO_884001, BK879, BK883, HB⟩ := hrel
                cases gk with
                | zero => exact absurd HA.out (by simp [impl_GridBoard.l1])
                | succ k3 =>
                  have H := HA.out
                  clear HA
                  simp only [impl_GridBoard.l1] at H
                  by_cases c21 : x52_3 < (y884.length : Int)
                  · rw [if_pos c21] at H
                    have c21b0 : decide (x52_3 < (y884.length : Int)) = true := decide_eq_true c21
                    clear c21
                    by_cases c22 : 0 ≤ x52_3
                    · rw [if_pos c22] at H
                      have c22b0 : decide (0 ≤ x52_3) = true := decide_eq_true c22
                      clear c22
                      by_cases c23 : x52_3 < (y884.length : Int)
                      · rw [if_pos c23] at H
                        have c23b0 : decide (x52_3 < (y884.length : Int)) = true := decide_eq_true c23
                        clear c23
                        by_cases c24 : a0 = 0
                        · rw [if_pos c24] at H
                          exact absurd H (by simp)
                        · rw [if_neg c24] at H
                          have c24b0 : (a0 == 0) = false := beq_eq_false_iff_ne.mpr c24
                          have c24b1 : (a0 != 0) = true := bne_iff_ne.mpr c24
                          have HC25 := Aside0.mk H
                          clear H
                          have p887 : 0 ≤ (x52_3 : Int) := of_decide_eq_true (by first | (with_reducible assumption) | assumption)
                          have q887 : x52_3 < (y884.length : Int) := of_decide_eq_true (by first | (with_reducible assumption) | assumption)
                          obtain ⟨ad887, e887, hx887_0, hx887_1⟩ := at_T77 (Kd.R_reads' HO_50.out).2.2 x52_3 p887 q887
                          cases e887
                          replace p887 := eq_true p887
                          replace q887 := eq_true q887
                          go_upto_region 11 with (first | ((with_reducible refine gate_dst (N := 11) rfl ?_); refine box_event ?hg (N := 11) ?hd (cs := #[.int .i64 0, .int .i64 0]) (t := 77) ?hr ?_; (case hd => rfl); (case hg => rfl); (case hr => first | (go_simp; done) | (go_simp; rfl)); intro gb888 hg w26 hbox hb; have n0_ := Aside0.mk (Kd.R_below (Kd.R_elderB (by (with_reducible repeat (first | apply Kd.R_alloc | apply Kd.R_drewN | apply Kd.R_drew)); exact HO_50.out) gb888 (Nat.le_of_eq hg.symm)) hb); have n1_ := Aside0.mk (Kd.R_below (by (with_reducible repeat (first | apply Kd.R_alloc | apply Kd.R_drewN | apply Kd.R_drew)); exact HO_884001.out) hb); have n2_ := Aside0.mk (blk_below (g := gb879) (o := .cells #[.int .i64 0, .slice none 0 0] 27 (0, 0)) (by (with_reducible repeat (first | refine blk_drewN ?_ _ | refine blk_drew ?_ | refine blk_alloc ?_ _)); exact BK879.out) hb); have n3_ := Aside0.mk (blk_below (g := gb883) (o := .cells #[.int .i64 (wrap64 (a0 * a1)), u884001] 27 (0, 0)) (by (with_reducible repeat (first | refine blk_drewN ?_ _ | refine blk_drew ?_ | refine blk_alloc ?_ _)); exact BK883.out) hb); have n4_ := Aside0.mk (below_step (by repeat (first | (with_reducible first | exact HB.out | apply below_alloc | apply pw_below_drewN | apply below_drew1 | refine below_set ?_ GE879.out | refine below_set ?_ GE883.out) | exact HB.out)) hb); have n5_ := Aside0.mk (hbox); have n6_ := Aside0.mk ((by rw [hg]; exact (below_size (by repeat (first | (with_reducible first | exact HB.out | apply below_alloc | apply pw_below_drewN | apply below_drew1 | refine below_set ?_ GE879.out | refine below_set ?_ GE883.out) | exact HB.out))) : w.heap.size ≤ gb888)); have n7_ := Aside0.mk ((by rw [hg]; exact (below_size (by repeat (first | (with_reducible first | exact HB.out | apply below_alloc | apply pw_below_drewN | apply below_drew1 | refine below_set ?_ GE879.out | refine below_set ?_ GE883.out) | exact HB.out))) : w.heap.size ≤ gb888)); have n8_ := Aside0.mk ((by rw [hg]; exact Nat.ne_of_lt (blk_lt (g := gb879) (o := .cells #[.int .i64 0, .slice none 0 0] 27 (0, 0)) (by (with_reducible repeat (first | refine blk_drewN ?_ _ | refine blk_drew ?_ | refine blk_alloc ?_ _)); exact BK879.out)) : gb879 ≠ gb888)); have n9_ := Aside0.mk ((by rw [hg]; exact Nat.ne_of_gt (blk_lt (g := gb879) (o := .cells #[.int .i64 0, .slice none 0 0] 27 (0, 0)) (by (with_reducible repeat (first | refine blk_drewN ?_ _ | refine blk_drew ?_ | refine blk_alloc ?_ _)); exact BK879.out)) : gb888 ≠ gb879)); have n10_ := Aside0.mk ((by rw [hg]; exact Nat.ne_of_lt (blk_lt (g := gb883) (o := .cells #[.int .i64 (wrap64 (a0 * a1)), u884001] 27 (0, 0)) (by (with_reducible repeat (first | refine blk_drewN ?_ _ | refine blk_drew ?_ | refine blk_alloc ?_ _)); exact BK883.out)) : gb883 ≠ gb888)); have n11_ := Aside0.mk ((by rw [hg]; exact Nat.ne_of_gt (blk_lt (g := gb883) (o := .cells #[.int .i64 (wrap64 (a0 * a1)), u884001] 27 (0, 0)) (by (with_reducible repeat (first | refine blk_drewN ?_ _ | refine blk_drew ?_ | refine blk_alloc ?_ _)); exact BK883.out)) : gb888 ≠ gb883)); clear HO_50; clear HO_884001; clear BK879; clear BK883; clear HB; have HO_50 := n0_; have HO_884001 := n1_; have BK879 := n2_; have BK883 := n3_; have HB := n4_; have BK888 := n5_; have GW888 := n6_; have GE888 := n7_; have NB879_888 := n8_; have NB888_879 := n9_; have NB883_888 := n10_; have NB888_883 := n11_; clear n0_ n1_ n2_ n3_ n4_ n5_ n6_ n7_ n8_ n9_ n10_ n11_; clear hb hbox hg; have hnb27 := NB888_879.out; have hnc27 := NB879_888.out; have hnb28 := NB888_883.out; have hnc28 := NB883_888.out; have hcz29_0 : w26.cell? ⟨gb888, 0, none⟩ = some (.int .i64 0) := (blk_cell BK888.out 0).trans rfl; have hcz29_1 : w26.cell? ⟨gb888, 1, none⟩ = some (.int .i64 0) := (blk_cell BK888.out 1).trans rfl; have hfz29_0 := blk_frozen BK888.out 0; have hfz29_1 := blk_frozen BK888.out 1))
                          repeat (go_quiet (first | ((with_reducible refine gate_dst (N := 11) rfl ?_); refine box_event ?hg (N := 11) ?hd (cs := #[.int .i64 0, .int .i64 0]) (t := 77) ?hr ?_; (case hd => rfl); (case hg => rfl); (case hr => first | (go_simp; done) | (go_simp; rfl)); intro gb888 hg w26 hbox hb; have n0_ := Aside0.mk (Kd.R_below (Kd.R_elderB (by (with_reducible repeat (first | apply Kd.R_alloc | apply Kd.R_drewN | apply Kd.R_drew)); exact HO_50.out) gb888 (Nat.le_of_eq hg.symm)) hb); have n1_ := Aside0.mk (Kd.R_below (by (with_reducible repeat (first | apply Kd.R_alloc | apply Kd.R_drewN | apply Kd.R_drew)); exact HO_884001.out) hb); have n2_ := Aside0.mk (blk_below (g := gb879) (o := .cells #[.int .i64 0, .slice none 0 0] 27 (0, 0)) (by (with_reducible repeat (first | refine blk_drewN ?_ _ | refine blk_drew ?_ | refine blk_alloc ?_ _)); exact BK879.out) hb); have n3_ := Aside0.mk (blk_below (g := gb883) (o := .cells #[.int .i64 (wrap64 (a0 * a1)), u884001] 27 (0, 0)) (by (with_reducible repeat (first | refine blk_drewN ?_ _ | refine blk_drew ?_ | refine blk_alloc ?_ _)); exact BK883.out) hb); have n4_ := Aside0.mk (below_step (by repeat (first | (with_reducible first | exact HB.out | apply below_alloc | apply pw_below_drewN | apply below_drew1 | refine below_set ?_ GE879.out | refine below_set ?_ GE883.out) | exact HB.out)) hb); have n5_ := Aside0.mk (hbox); have n6_ := Aside0.mk ((by rw [hg]; exact (below_size (by repeat (first | (with_reducible first | exact HB.out | apply below_alloc | apply pw_below_drewN | apply below_drew1 | refine below_set ?_ GE879.out | refine below_set ?_ GE883.out) | exact HB.out))) : w.heap.size ≤ gb888)); have n7_ := Aside0.mk ((by rw [hg]; exact (below_size (by repeat (first | (with_reducible first | exact HB.out | apply below_alloc | apply pw_below_drewN | apply below_drew1 | refine below_set ?_ GE879.out | refine below_set ?_ GE883.out) | exact HB.out))) : w.heap.size ≤ gb888)); have n8_ := Aside0.mk ((by rw [hg]; exact Nat.ne_of_lt (blk_lt (g := gb879) (o := .cells #[.int .i64 0, .slice none 0 0] 27 (0, 0)) (by (with_reducible repeat (first | refine blk_drewN ?_ _ | refine blk_drew ?_ | refine blk_alloc ?_ _)); exact BK879.out)) : gb879 ≠ gb888)); have n9_ := Aside0.mk ((by rw [hg]; exact Nat.ne_of_gt (blk_lt (g := gb879) (o := .cells #[.int .i64 0, .slice none 0 0] 27 (0, 0)) (by (with_reducible repeat (first | refine blk_drewN ?_ _ | refine blk_drew ?_ | refine blk_alloc ?_ _)); exact BK879.out)) : gb888 ≠ gb879)); have n10_ := Aside0.mk ((by rw [hg]; exact Nat.ne_of_lt (blk_lt (g := gb883) (o := .cells #[.int .i64 (wrap64 (a0 * a1)), u884001] 27 (0, 0)) (by (with_reducible repeat (first | refine blk_drewN ?_ _ | refine blk_drew ?_ | refine blk_alloc ?_ _)); exact BK883.out)) : gb883 ≠ gb888)); have n11_ := Aside0.mk ((by rw [hg]; exact Nat.ne_of_gt (blk_lt (g := gb883) (o := .cells #[.int .i64 (wrap64 (a0 * a1)), u884001] 27 (0, 0)) (by (with_reducible repeat (first | refine blk_drewN ?_ _ | refine blk_drew ?_ | refine blk_alloc ?_ _)); exact BK883.out)) : gb888 ≠ gb883)); clear HO_50; clear HO_884001; clear BK879; clear BK883; clear HB; have HO_50 := n0_; have HO_884001 := n1_; have BK879 := n2_; have BK883 := n3_; have HB := n4_; have BK888 := n5_; have GW888 := n6_; have GE888 := n7_; have NB879_888 := n8_; have NB888_879 := n9_; have NB883_888 := n10_; have NB888_883 := n11_; clear n0_ n1_ n2_ n3_ n4_ n5_ n6_ n7_ n8_ n9_ n10_ n11_; clear hb hbox hg; have hnb27 := NB888_879.out; have hnc27 := NB879_888.out; have hnb28 := NB888_883.out; have hnc28 := NB883_888.out; have hcz29_0 : w26.cell? ⟨gb888, 0, none⟩ = some (.int .i64 0) := (blk_cell BK888.out 0).trans rfl; have hcz29_1 : w26.cell? ⟨gb888, 1, none⟩ = some (.int .i64 0) := (blk_cell BK888.out 1).trans rfl; have hfz29_0 := blk_frozen BK888.out 0; have hfz29_1 := blk_frozen BK888.out 1)); go_upto_region 11 with (first | ((with_reducible refine gate_dst (N := 11) rfl ?_); refine box_event ?hg (N := 11) ?hd (cs := #[.int .i64 0, .int .i64 0]) (t := 77) ?hr ?_; (case hd => rfl); (case hg => rfl); (case hr => first | (go_simp; done) | (go_simp; rfl)); intro gb888 hg w26 hbox hb; have n0_ := Aside0.mk (Kd.R_below (Kd.R_elderB (by (with_reducible repeat (first | apply Kd.R_alloc | apply Kd.R_drewN | apply Kd.R_drew)); exact HO_50.out) gb888 (Nat.le_of_eq hg.symm)) hb); have n1_ := Aside0.mk (Kd.R_below (by (with_reducible repeat (first | apply Kd.R_alloc | apply Kd.R_drewN | apply Kd.R_drew)); exact HO_884001.out) hb); have n2_ := Aside0.mk (blk_below (g := gb879) (o := .cells #[.int .i64 0, .slice none 0 0] 27 (0, 0)) (by (with_reducible repeat (first | refine blk_drewN ?_ _ | refine blk_drew ?_ | refine blk_alloc ?_ _)); exact BK879.out) hb); have n3_ := Aside0.mk (blk_below (g := gb883) (o := .cells #[.int .i64 (wrap64 (a0 * a1)), u884001] 27 (0, 0)) (by (with_reducible repeat (first | refine blk_drewN ?_ _ | refine blk_drew ?_ | refine blk_alloc ?_ _)); exact BK883.out) hb); have n4_ := Aside0.mk (below_step (by repeat (first | (with_reducible first | exact HB.out | apply below_alloc | apply pw_below_drewN | apply below_drew1 | refine below_set ?_ GE879.out | refine below_set ?_ GE883.out) | exact HB.out)) hb); have n5_ := Aside0.mk (hbox); have n6_ := Aside0.mk ((by rw [hg]; exact (below_size (by repeat (first | (with_reducible first | exact HB.out | apply below_alloc | apply pw_below_drewN | apply below_drew1 | refine below_set ?_ GE879.out | refine below_set ?_ GE883.out) | exact HB.out))) : w.heap.size ≤ gb888)); have n7_ := Aside0.mk ((by rw [hg]; exact (below_size (by repeat (first | (with_reducible first | exact HB.out | apply below_alloc | apply pw_below_drewN | apply below_drew1 | refine below_set ?_ GE879.out | refine below_set ?_ GE883.out) | exact HB.out))) : w.heap.size ≤ gb888)); have n8_ := Aside0.mk ((by rw [hg]; exact Nat.ne_of_lt (blk_lt (g := gb879) (o := .cells #[.int .i64 0, .slice none 0 0] 27 (0, 0)) (by (with_reducible repeat (first | refine blk_drewN ?_ _ | refine blk_drew ?_ | refine blk_alloc ?_ _)); exact BK879.out)) : gb879 ≠ gb888)); have n9_ := Aside0.mk ((by rw [hg]; exact Nat.ne_of_gt (blk_lt (g := gb879) (o := .cells #[.int .i64 0, .slice none 0 0] 27 (0, 0)) (by (with_reducible repeat (first | refine blk_drewN ?_ _ | refine blk_drew ?_ | refine blk_alloc ?_ _)); exact BK879.out)) : gb888 ≠ gb879)); have n10_ := Aside0.mk ((by rw [hg]; exact Nat.ne_of_lt (blk_lt (g := gb883) (o := .cells #[.int .i64 (wrap64 (a0 * a1)), u884001] 27 (0, 0)) (by (with_reducible repeat (first | refine blk_drewN ?_ _ | refine blk_drew ?_ | refine blk_alloc ?_ _)); exact BK883.out)) : gb883 ≠ gb888)); have n11_ := Aside0.mk ((by rw [hg]; exact Nat.ne_of_gt (blk_lt (g := gb883) (o := .cells #[.int .i64 (wrap64 (a0 * a1)), u884001] 27 (0, 0)) (by (with_reducible repeat (first | refine blk_drewN ?_ _ | refine blk_drew ?_ | refine blk_alloc ?_ _)); exact BK883.out)) : gb888 ≠ gb883)); clear HO_50; clear HO_884001; clear BK879; clear BK883; clear HB; have HO_50 := n0_; have HO_884001 := n1_; have BK879 := n2_; have BK883 := n3_; have HB := n4_; have BK888 := n5_; have GW888 := n6_; have GE888 := n7_; have NB879_888 := n8_; have NB888_879 := n9_; have NB883_888 := n10_; have NB888_883 := n11_; clear n0_ n1_ n2_ n3_ n4_ n5_ n6_ n7_ n8_ n9_ n10_ n11_; clear hb hbox hg; have hnb27 := NB888_879.out; have hnc27 := NB879_888.out; have hnb28 := NB888_883.out; have hnc28 := NB883_888.out; have hcz29_0 : w26.cell? ⟨gb888, 0, none⟩ = some (.int .i64 0) := (blk_cell BK888.out 0).trans rfl; have hcz29_1 : w26.cell? ⟨gb888, 1, none⟩ = some (.int .i64 0) := (blk_cell BK888.out 1).trans rfl; have hfz29_0 := blk_frozen BK888.out 0; have hfz29_1 := blk_frozen BK888.out 1)))
                          (try simp only [Act.put, List.setIfInBounds_toArray, List.set_cons_zero, List.set_cons_succ])
                          go_cut [85] (fun v85 wc => ∃ (kq : Nat) (x85_24 : Bool), v85 = .bool x85_24 ∧ Aside0 (impl_GridBoard.j3 kq a0 a1 a2 x43_2 (wrap64 (a0 * a1)) x43_2 y884 (y884.length : Int) x52_3 x85_24 (wrap64 (a0 * a1)) x884001_3 ((rd_T77 y884 x52_3).f0) ((rd_T77 y884 x52_3).f1) = some (r1, r2, r3)) ∧ Aside0 (kq ≤ k3) ∧ Aside0 (Kd.R k77 77 wc w.heap.size (fun k_ => k_ ≠ gb888) (.slice (some ad887) y884.length co20) y884) ∧ Aside0 (Kd.R (Kd.int .i64) 2 wc w.heap.size (fun _ => True) u884001 x884001_3) ∧ Aside0 (wc.heap[gb879]? = some (.cells #[.int .i64 0, (.slice none 0 0)] 27 (0, 0))) ∧ Aside0 (wc.heap[gb883]? = some (.cells #[.int .i64 (wrap64 (a0 * a1)), u884001] 27 (0, 0))) ∧ Aside0 (wc.heap[gb888]? = some (.cells #[.int .i64 ((rd_T77 y884 x52_3).f0), .int .i64 ((rd_T77 y884 x52_3).f1)] 77 (0, 0))) ∧ Aside0 (Below w.heap.size w wc))
                          case first =>
                            have H := HC25.out
                            clear HC25
                            replace H := Option.bind_eq_some_iff.mp H
                            obtain ⟨t889, A300, H⟩ := H
                            replace H : (if t889 = true then ((impl_within.f (wrap64 ((wrap64 (Int.tdiv x43_2 a0)) + (wrap64 ((wrap64 (a2 - 1)) * ((rd_T77 y884 x52_3).f1))))) 0 (wrap64 (a1 - 1))).bind fun t890 => (impl_GridBoard.j3 k3 a0 a1 a2 x43_2 (wrap64 (a0 * a1)) x43_2 y884 (y884.length : Int) x52_3 (!t890) (wrap64 (a0 * a1)) x884001_3 ((rd_T77 y884 x52_3).f0) ((rd_T77 y884 x52_3).f1))) else (impl_GridBoard.j3 k3 a0 a1 a2 x43_2 (wrap64 (a0 * a1)) x43_2 y884 (y884.length : Int) x52_3 true (wrap64 (a0 * a1)) x884001_3 ((rd_T77 y884 x52_3).f0) ((rd_T77 y884 x52_3).f1))) = some (r1, r2, r3) := H
                            have A30 := Aside0.mk A300
                            clear A300
                            by_cases c31 : t889 = true
                            · subst c31
                              have H1 : ((impl_within.f (wrap64 ((wrap64 (Int.tdiv x43_2 a0)) + (wrap64 ((wrap64 (a2 - 1)) * ((rd_T77 y884 x52_3).f1))))) 0 (wrap64 (a1 - 1))).bind fun t890 => (impl_GridBoard.j3 k3 a0 a1 a2 x43_2 (wrap64 (a0 * a1)) x43_2 y884 (y884.length : Int) x52_3 (!t890) (wrap64 (a0 * a1)) x884001_3 ((rd_T77 y884 x52_3).f0) ((rd_T77 y884 x52_3).f1))) = some (r1, r2, r3) := by rw [if_pos rfl] at H; exact H
                              clear H
                              have H := H1
                              clear H1
                              replace H := Option.bind_eq_some_iff.mp H
                              obtain ⟨t890, A320, H⟩ := H
                              replace H : (impl_GridBoard.j3 k3 a0 a1 a2 x43_2 (wrap64 (a0 * a1)) x43_2 y884 (y884.length : Int) x52_3 (!t890) (wrap64 (a0 * a1)) x884001_3 ((rd_T77 y884 x52_3).f0) ((rd_T77 y884 x52_3).f1)) = some (r1, r2, r3) := H
                              have A32 := Aside0.mk A320
                              clear A320
                              have H' := Aside0.mk H
                              clear H
                              go_wp2_with (first | (go_at_call 53; (with_reducible refine (impl_within.calls (wrap64 ((Int.tmod x43_2 a0) + (wrap64 ((wrap64 (a2 - 1)) * ((rd_T77 y884 x52_3).f0))))) 0 (wrap64 (a0 - 1)) true _ A30.out).mono ?_); rintro e w' ⟨rfl, ⟨nd, rfl⟩⟩; (try first | exact ⟨rfl, _, World.drewN_drewN _ _ _⟩ | exact ⟨rfl, _, Eq.trans (World.drewN_drewN _ _ _) (congrArg (World.drewN _) (Nat.add_assoc _ _ _))⟩)) | (go_at_call 53; (with_reducible refine (impl_within.calls (wrap64 ((wrap64 (Int.tdiv x43_2 a0)) + (wrap64 ((wrap64 (a2 - 1)) * ((rd_T77 y884 x52_3).f1))))) 0 (wrap64 (a1 - 1)) t890 _ A32.out).mono ?_); rintro e w' ⟨rfl, ⟨nd, rfl⟩⟩; (try first | exact ⟨rfl, _, World.drewN_drewN _ _ _⟩ | exact ⟨rfl, _, Eq.trans (World.drewN_drewN _ _ _) (congrArg (World.drewN _) (Nat.add_assoc _ _ _))⟩)))
                              repeat (go_quiet (first | (go_at_call 53; (with_reducible refine (impl_within.calls (wrap64 ((Int.tmod x43_2 a0) + (wrap64 ((wrap64 (a2 - 1)) * ((rd_T77 y884 x52_3).f0))))) 0 (wrap64 (a0 - 1)) true _ A30.out).mono ?_); rintro e w' ⟨rfl, ⟨nd, rfl⟩⟩; (try first | exact ⟨rfl, _, World.drewN_drewN _ _ _⟩ | exact ⟨rfl, _, Eq.trans (World.drewN_drewN _ _ _) (congrArg (World.drewN _) (Nat.add_assoc _ _ _))⟩)) | (go_at_call 53; (with_reducible refine (impl_within.calls (wrap64 ((wrap64 (Int.tdiv x43_2 a0)) + (wrap64 ((wrap64 (a2 - 1)) * ((rd_T77 y884 x52_3).f1))))) 0 (wrap64 (a1 - 1)) t890 _ A32.out).mono ?_); rintro e w' ⟨rfl, ⟨nd, rfl⟩⟩; (try first | exact ⟨rfl, _, World.drewN_drewN _ _ _⟩ | exact ⟨rfl, _, Eq.trans (World.drewN_drewN _ _ _) (congrArg (World.drewN _) (Nat.add_assoc _ _ _))⟩))); try go_wp2_with (first | (go_at_call 53; (with_reducible refine (impl_within.calls (wrap64 ((Int.tmod x43_2 a0) + (wrap64 ((wrap64 (a2 - 1)) * ((rd_T77 y884 x52_3).f0))))) 0 (wrap64 (a0 - 1)) true _ A30.out).mono ?_); rintro e w' ⟨rfl, ⟨nd, rfl⟩⟩; (try first | exact ⟨rfl, _, World.drewN_drewN _ _ _⟩ | exact ⟨rfl, _, Eq.trans (World.drewN_drewN _ _ _) (congrArg (World.drewN _) (Nat.add_assoc _ _ _))⟩)) | (go_at_call 53; (with_reducible refine (impl_within.calls (wrap64 ((wrap64 (Int.tdiv x43_2 a0)) + (wrap64 ((wrap64 (a2 - 1)) * ((rd_T77 y884 x52_3).f1))))) 0 (wrap64 (a1 - 1)) t890 _ A32.out).mono ?_); rintro e w' ⟨rfl, ⟨nd, rfl⟩⟩; (try first | exact ⟨rfl, _, World.drewN_drewN _ _ _⟩ | exact ⟨rfl, _, Eq.trans (World.drewN_drewN _ _ _) (congrArg (World.drewN _) (Nat.add_assoc _ _ _))⟩))))
                              go_meet
                              case rel => exact ⟨_, (!t890), (by first | rfl | (simp; done) | (simp [*]; done)), H', ⟨by have := HJ3.out; have := HK2.out; have := HK3.out; first | omega | exact Nat.le_refl _⟩, ⟨by (with_reducible repeat (first | apply Kd.R_alloc | apply Kd.R_drewN | apply Kd.R_drew)); exact Kd.R_mono (Kd.R_far (p := ⟨gb888, 1, none⟩) (Kd.R_far (p := ⟨gb888, 0, none⟩) (Kd.R_mono HO_50.out (fun k_ hk => (⟨hk, hk.2⟩ : _ ∧ k_ ≠ gb888))) (fun _ hk => hk.2) (.int .i64 ((rd_T77 y884 x52_3).f0))) (fun _ hk => hk.2) (.int .i64 ((rd_T77 y884 x52_3).f1))) (fun _ hk => hk.1.2)⟩, ⟨by (with_reducible repeat (first | apply Kd.R_alloc | apply Kd.R_drewN | apply Kd.R_drew)); exact Kd.R_mono (Kd.R_far (p := ⟨gb888, 1, none⟩) (Kd.R_far (p := ⟨gb888, 0, none⟩) (Kd.R_types HO_884001.out BK888.out (by decide)) (fun _ hk => hk.2) (.int .i64 ((rd_T77 y884 x52_3).f0))) (fun _ hk => hk.2) (.int .i64 ((rd_T77 y884 x52_3).f1))) (fun _ hk => trivial)⟩, ⟨by (with_reducible repeat (first | refine blk_drewN ?_ _ | refine blk_drew ?_ | refine blk_alloc ?_ _)); refine blk_far ?_ NB879_888.out _; (with_reducible repeat (first | refine blk_drewN ?_ _ | refine blk_drew ?_ | refine blk_alloc ?_ _)); refine blk_far ?_ NB879_888.out _; (with_reducible repeat (first | refine blk_drewN ?_ _ | refine blk_drew ?_ | refine blk_alloc ?_ _)); exact BK879.out⟩, ⟨by (with_reducible repeat (first | refine blk_drewN ?_ _ | refine blk_drew ?_ | refine blk_alloc ?_ _)); refine blk_far ?_ NB883_888.out _; (with_reducible repeat (first | refine blk_drewN ?_ _ | refine blk_drew ?_ | refine blk_alloc ?_ _)); refine blk_far ?_ NB883_888.out _; (with_reducible repeat (first | refine blk_drewN ?_ _ | refine blk_drew ?_ | refine blk_alloc ?_ _)); exact BK883.out⟩, ⟨by (with_reducible repeat (first | refine blk_drewN ?_ _ | refine blk_drew ?_ | refine blk_alloc ?_ _)); refine blk_put (cs := #[.int .i64 ((rd_T77 y884 x52_3).f0), .int .i64 0]) ?_ 1 _ rfl; (with_reducible repeat (first | refine blk_drewN ?_ _ | refine blk_drew ?_ | refine blk_alloc ?_ _)); refine blk_put (cs := #[.int .i64 0, .int .i64 0]) ?_ 0 _ rfl; (with_reducible repeat (first | refine blk_drewN ?_ _ | refine blk_drew ?_ | refine blk_alloc ?_ _)); exact BK888.out⟩, ⟨by repeat (first | (with_reducible first | exact HB.out | apply below_alloc | apply pw_below_drewN | apply below_drew1 | refine below_set ?_ GE879.out | refine below_set ?_ GE883.out | refine below_set ?_ GE888.out) | exact HB.out)⟩⟩
                            · replace c31 := Bool.eq_false_iff.mpr c31
                              subst c31
                              have H1 : (impl_GridBoard.j3 k3 a0 a1 a2 x43_2 (wrap64 (a0 * a1)) x43_2 y884 (y884.length : Int) x52_3 true (wrap64 (a0 * a1)) x884001_3 ((rd_T77 y884 x52_3).f0) ((rd_T77 y884 x52_3).f1)) = some (r1, r2, r3) := by rw [if_neg (show ¬ (false = true) by decide)] at H; exact H
                              clear H
                              have H := H1
                              clear H1
                              have H' := Aside0.mk H
                              clear H
                              go_wp2_with (first | (go_at_call 53; (with_reducible refine (impl_within.calls (wrap64 ((Int.tmod x43_2 a0) + (wrap64 ((wrap64 (a2 - 1)) * ((rd_T77 y884 x52_3).f0))))) 0 (wrap64 (a0 - 1)) false _ A30.out).mono ?_); rintro e w' ⟨rfl, ⟨nd, rfl⟩⟩; (try first | exact ⟨rfl, _, World.drewN_drewN _ _ _⟩ | exact ⟨rfl, _, Eq.trans (World.drewN_drewN _ _ _) (congrArg (World.drewN _) (Nat.add_assoc _ _ _))⟩)))
                              repeat (go_quiet (first | (go_at_call 53; (with_reducible refine (impl_within.calls (wrap64 ((Int.tmod x43_2 a0) + (wrap64 ((wrap64 (a2 - 1)) * ((rd_T77 y884 x52_3).f0))))) 0 (wrap64 (a0 - 1)) false _ A30.out).mono ?_); rintro e w' ⟨rfl, ⟨nd, rfl⟩⟩; (try first | exact ⟨rfl, _, World.drewN_drewN _ _ _⟩ | exact ⟨rfl, _, Eq.trans (World.drewN_drewN _ _ _) (congrArg (World.drewN _) (Nat.add_assoc _ _ _))⟩))); try go_wp2_with (first | (go_at_call 53; (with_reducible refine (impl_within.calls (wrap64 ((Int.tmod x43_2 a0) + (wrap64 ((wrap64 (a2 - 1)) * ((rd_T77 y884 x52_3).f0))))) 0 (wrap64 (a0 - 1)) false _ A30.out).mono ?_); rintro e w' ⟨rfl, ⟨nd, rfl⟩⟩; (try first | exact ⟨rfl, _, World.drewN_drewN _ _ _⟩ | exact ⟨rfl, _, Eq.trans (World.drewN_drewN _ _ _) (congrArg (World.drewN _) (Nat.add_assoc _ _ _))⟩))))
                              go_meet
                              case rel => exact ⟨_, (true), (by first | rfl | (simp; done) | (simp [*]; done)), H', ⟨by have := HJ3.out; have := HK2.out; have := HK3.out; first | omega | exact Nat.le_refl _⟩, ⟨by (with_reducible repeat (first | apply Kd.R_alloc | apply Kd.R_drewN | apply Kd.R_drew)); exact Kd.R_mono (Kd.R_far (p := ⟨gb888, 1, none⟩) (Kd.R_far (p := ⟨gb888, 0, none⟩) (Kd.R_mono HO_50.out (fun k_ hk => (⟨hk, hk.2⟩ : _ ∧ k_ ≠ gb888))) (fun _ hk => hk.2) (.int .i64 ((rd_T77 y884 x52_3).f0))) (fun _ hk => hk.2) (.int .i64 ((rd_T77 y884 x52_3).f1))) (fun _ hk => hk.1.2)⟩, ⟨by (with_reducible repeat (first | apply Kd.R_alloc | apply Kd.R_drewN | apply Kd.R_drew)); exact Kd.R_mono (Kd.R_far (p := ⟨gb888, 1, none⟩) (Kd.R_far (p := ⟨gb888, 0, none⟩) (Kd.R_types HO_884001.out BK888.out (by decide)) (fun _ hk => hk.2) (.int .i64 ((rd_T77 y884 x52_3).f0))) (fun _ hk => hk.2) (.int .i64 ((rd_T77 y884 x52_3).f1))) (fun _ hk => trivial)⟩, ⟨by (with_reducible repeat (first | refine blk_drewN ?_ _ | refine blk_drew ?_ | refine blk_alloc ?_ _)); refine blk_far ?_ NB879_888.out _; (with_reducible repeat (first | refine blk_drewN ?_ _ | refine blk_drew ?_ | refine blk_alloc ?_ _)); refine blk_far ?_ NB879_888.out _; (with_reducible repeat (first | refine blk_drewN ?_ _ | refine blk_drew ?_ | refine blk_alloc ?_ _)); exact BK879.out⟩, ⟨by (with_reducible repeat (first | refine blk_drewN ?_ _ | refine blk_drew ?_ | refine blk_alloc ?_ _)); refine blk_far ?_ NB883_888.out _; (with_reducible repeat (first | refine blk_drewN ?_ _ | refine blk_drew ?_ | refine blk_alloc ?_ _)); refine blk_far ?_ NB883_888.out _; (with_reducible repeat (first | refine blk_drewN ?_ _ | refine blk_drew ?_ | refine blk_alloc ?_ _)); exact BK883.out⟩, ⟨by (with_reducible repeat (first | refine blk_drewN ?_ _ | refine blk_drew ?_ | refine blk_alloc ?_ _)); refine blk_put (cs := #[.int .i64 ((rd_T77 y884 x52_3).f0), .int .i64 0]) ?_ 1 _ rfl; (with_reducible repeat (first | refine blk_drewN ?_ _ | refine blk_drew ?_ | refine blk_alloc ?_ _)); refine blk_put (cs := #[.int .i64 0, .int .i64 0]) ?_ 0 _ rfl; (with_reducible repeat (first | refine blk_drewN ?_ _ | refine blk_drew ?_ | refine blk_alloc ?_ _)); exact BK888.out⟩, ⟨by repeat (first | (with_reducible first | exact HB.out | apply below_alloc | apply pw_below_drewN | apply below_drew1 | refine below_set ?_ GE879.out | refine below_set ?_ GE883.out | refine below_set ?_ GE888.out) | exact HB.out)⟩⟩
                          case rest =>
                            clear HC25
                            try clear c1
                            try clear c2
                            try clear p2
                            try clear c3
                            try clear c4
                            try clear p6
                            try clear c7
                            try clear p8
                            try clear q8
                            try clear hx8
                            try clear c9
                            try clear c10
                            try clear c10b0
                            try clear c12
                            try clear c15
                            try clear c17
                            try clear c17b0
                            try clear c21
                            try clear c21b0
                            try clear c22
                            try clear c22b0
                            try clear c23
                            try clear c23b0
                            try clear c24
                            try clear c24b0
                            try clear c24b1
                            try clear c27
                            try clear c28
                            try clear c31
                            try clear hcz13_0
                            try clear hcz13_1
                            try clear hcz16_0
                            try clear hcz16_1
                            try clear hcz29_0
                            try clear hcz29_1
                            try clear hfz13_0
                            try clear hfz13_1
                            try clear hfz16_0
                            try clear hfz16_1
                            try clear hfz29_0
                            try clear hfz29_1
                            try clear hx887_0
                            try clear hx887_1
                            try clear p2
                            try clear p6
                            try clear p887
                            try clear q887
                            obtain ⟨kq, x85_24, rfl, HA, HJ24, HO_50, HO_884001, BK879, BK883, BK888, HB⟩ := hcut
                            cases kq with
                            | zero => exact absurd HA.out (by simp [impl_GridBoard.j3])
                            | succ kj24 =>
                              have H := HA.out
                              clear HA
                              simp only [impl_GridBoard.j3] at H
                              by_cases c33 : x85_24 = true
                              · subst c33
                                have H1 : (impl_GridBoard.l1 kj24 a0 a1 a2 x43_2 (wrap64 (a0 * a1)) x43_2 y884 (y884.length : Int) (wrap64 (x52_3 + 1)) (wrap64 (a0 * a1)) x884001_3) = some (r1, r2, r3) := by rw [if_pos rfl] at H; exact H
                                clear H
                                have H := H1
                                clear H1
                                have H' := Aside0.mk H
                                clear H
                                go_wp2
                                repeat (go_quiet (fail); try go_wp2)
                                go_roundg kj24
                                case measure => have := HJ3.out; have := HK2.out; have := HK3.out; have := HJ24.out; omega
                                case rel => exact ⟨(wrap64 (x52_3 + 1)), (x884001_3), (u884001), (by first | rfl | (simp; done) | (simp [*]; done)), H', ⟨by have := HJ3.out; have := HK2.out; have := HK3.out; have := HJ24.out; omega⟩, ⟨by (with_reducible repeat (first | apply Kd.R_alloc | apply Kd.R_drewN | apply Kd.R_drew)); exact Kd.R_mono HO_50.out (fun _ hk => trivial)⟩, ⟨by (with_reducible repeat (first | apply Kd.R_alloc | apply Kd.R_drewN | apply Kd.R_drew)); exact HO_884001.out⟩, ⟨by (with_reducible repeat (first | refine blk_drewN ?_ _ | refine blk_drew ?_ | refine blk_alloc ?_ _)); exact BK879.out⟩, ⟨by (with_reducible repeat (first | refine blk_drewN ?_ _ | refine blk_drew ?_ | refine blk_alloc ?_ _)); exact BK883.out⟩, ⟨by repeat (first | (with_reducible first | exact HB.out | apply below_alloc | apply pw_below_drewN | apply below_drew1 | refine below_set ?_ GE879.out | refine below_set ?_ GE883.out | refine below_set ?_ GE888.out) | exact HB.out)⟩⟩
                              · replace c33 := Bool.eq_false_iff.mpr c33
                                subst c33
                                have H1 : (impl_GridBoard.l2 kj24 a0 a1 a2 x43_2 0 (wrap64 (a0 * a1)) x43_2 y884 (y884.length : Int) x52_3 a2 0 (wrap64 (a0 * a1)) x884001_3 ((rd_T77 y884 x52_3).f0) ((rd_T77 y884 x52_3).f1)) = some (r1, r2, r3) := by rw [if_neg (show ¬ (false = true) by decide)] at H; exact H
                                clear H
                                have H := H1
                                clear H1
                                have H' := Aside0.mk H
                                clear H
                                go_wp2
                                repeat (go_quiet (fail); try go_wp2)
                                go_loopg [14, 87] kj24 (fun kq v14 v87 w' => ∃ (x14_5 : Int) (x87_5 : Int), v14 = .int .i64 x14_5 ∧ v87 = .int .i64 x87_5 ∧ Aside0 (impl_GridBoard.l2 kq a0 a1 a2 x43_2 x14_5 (wrap64 (a0 * a1)) x43_2 y884 (y884.length : Int) x52_3 a2 x87_5 (wrap64 (a0 * a1)) x884001_3 ((rd_T77 y884 x52_3).f0) ((rd_T77 y884 x52_3).f1) = some (r1, r2, r3)) ∧ Aside0 (kq ≤ kj24) ∧ Aside0 (Kd.R k77 77 w' w.heap.size (fun k_ => k_ ≠ gb888) (.slice (some ad887) y884.length co20) y884) ∧ Aside0 (Kd.R (Kd.int .i64) 2 w' w.heap.size (fun _ => True) u884001 x884001_3) ∧ Aside0 (w'.heap[gb879]? = some (.cells #[.int .i64 0, (.slice none 0 0)] 27 (0, 0))) ∧ Aside0 (w'.heap[gb883]? = some (.cells #[.int .i64 (wrap64 (a0 * a1)), u884001] 27 (0, 0))) ∧ Aside0 (w'.heap[gb888]? = some (.cells #[.int .i64 ((rd_T77 y884 x52_3).f0), .int .i64 ((rd_T77 y884 x52_3).f1)] 77 (0, 0))) ∧ Aside0 (Below w.heap.size w w'))
                                case atStart => exact ⟨(0), (0), (by first | rfl | (simp; done) | (simp [*]; done)), (by first | rfl | (simp; done) | (simp [*]; done)), H', ⟨Nat.le_refl _⟩, ⟨by (with_reducible repeat (first | apply Kd.R_alloc | apply Kd.R_drewN | apply Kd.R_drew)); exact HO_50.out⟩, ⟨by (with_reducible repeat (first | apply Kd.R_alloc | apply Kd.R_drewN | apply Kd.R_drew)); exact HO_884001.out⟩, ⟨by (with_reducible repeat (first | refine blk_drewN ?_ _ | refine blk_drew ?_ | refine blk_alloc ?_ _)); exact BK879.out⟩, ⟨by (with_reducible repeat (first | refine blk_drewN ?_ _ | refine blk_drew ?_ | refine blk_alloc ?_ _)); exact BK883.out⟩, ⟨by (with_reducible repeat (first | refine blk_drewN ?_ _ | refine blk_drew ?_ | refine blk_alloc ?_ _)); exact BK888.out⟩, ⟨by repeat (first | (with_reducible first | exact HB.out | apply below_alloc | apply pw_below_drewN | apply below_drew1 | refine below_set ?_ GE879.out | refine below_set ?_ GE883.out | refine below_set ?_ GE888.out) | exact HB.out)⟩⟩
                                case round =>
                                  clear H'
                                  try clear c1
                                  try clear c2
                                  try clear p2
                                  try clear c3
                                  try clear c4
                                  try clear p6
                                  try clear c7
                                  try clear p8
                                  try clear q8
                                  try clear hx8
                                  try clear c9
                                  try clear c10
                                  try clear c10b0
                                  try clear c12
                                  try clear c15
                                  try clear c17
                                  try clear c17b0
                                  try clear c21
                                  try clear c21b0
                                  try clear c22
                                  try clear c22b0
                                  try clear c23
                                  try clear c23b0
                                  try clear c24
                                  try clear c24b0
                                  try clear c24b1
                                  try clear c27
                                  try clear c28
                                  try clear c31
                                  try clear c33
                                  try clear hcz13_0
                                  try clear hcz13_1
                                  try clear hcz16_0
                                  try clear hcz16_1
                                  try clear hcz29_0
                                  try clear hcz29_1
                                  try clear hfz13_0
                                  try clear hfz13_1
                                  try clear hfz16_0
                                  try clear hfz16_1
                                  try clear hfz29_0
                                  try clear hfz29_1
                                  try clear hx887_0
                                  try clear hx887_1
                                  try clear p2
                                  try clear p6
                                  try clear p8
                                  try clear p887
                                  try clear q8
                                  try clear q887
                                  obtain ⟨x14_5, x87_5, rfl, rfl, HA, HK5, HO_50, HO_884001, BK879, BK883, BK888, HB⟩ := hrel
                                  cases gk with
                                  | zero => exact absurd HA.out (by simp [impl_GridBoard.l2])
                                  | succ k5 =>
                                    have H := HA.out
                                    clear HA
                                    simp only [impl_GridBoard.l2] at H
                                    by_cases c34 : x87_5 < a2
                                    · rw [if_pos c34] at H
                                      have c34b0 : decide (x87_5 < a2) = true := decide_eq_true c34
                                      clear c34
                                      obtain ⟨ji35, hji35⟩ : ∃ j_ : Int, (wrap64 (x43_2 + (wrap64 (x87_5 * (wrap64 ((wrap64 (((rd_T77 y884 x52_3).f1) * a0)) + ((rd_T77 y884 x52_3).f0))))))) = j_ := ⟨_, rfl⟩
                                      replace H : (if 0 ≤ (ji35) then (impl_GridBoard.l2 k5 a0 a1 a2 x43_2 (Go.bits .or .i64 x14_5 (shl .i64 1 (ji35))) (wrap64 (a0 * a1)) x43_2 y884 (y884.length : Int) x52_3 a2 (wrap64 (x87_5 + 1)) (wrap64 (a0 * a1)) x884001_3 ((rd_T77 y884 x52_3).f0) ((rd_T77 y884 x52_3).f1)) else (none)) = some (r1, r2, r3) := by first | (rw [hji35] at H; exact H) | (simp only [hji35] at H ⊢; exact H)
                                      have hji35w : (IntKind.i64.wrap (x43_2 + (wrap64 (x87_5 * (wrap64 ((wrap64 (((rd_T77 y884 x52_3).f1) * a0)) + ((rd_T77 y884 x52_3).f0))))))) = ji35 := (i64_w _).trans hji35
                                      by_cases c36 : 0 ≤ (ji35)
                                      · rw [if_pos c36] at H
                                        have c36b0 := eq_true c36
                                        have c36b1 : decide (0 ≤ (ji35)) = true := decide_eq_true c36
                                        clear c36
                                        obtain ⟨ji37, hji37⟩ : ∃ j_ : Int, (shl .i64 1 (ji35)) = j_ := ⟨_, rfl⟩
                                        replace H : (impl_GridBoard.l2 k5 a0 a1 a2 x43_2 (Go.bits .or .i64 x14_5 (ji37)) (wrap64 (a0 * a1)) x43_2 y884 (y884.length : Int) x52_3 a2 (wrap64 (x87_5 + 1)) (wrap64 (a0 * a1)) x884001_3 ((rd_T77 y884 x52_3).f0) ((rd_T77 y884 x52_3).f1)) = some (r1, r2, r3) := by first | (rw [hji37] at H; exact H) | (simp only [hji37] at H ⊢; exact H)
                                        have hji37_ : (IntKind.i64.wrap (1 * 2 ^ min (ji35).toNat 64)) = ji37 := hji37
                                        have hji37z : (ji35) ≤ 64 → (IntKind.i64.wrap (1 * 2 ^ (ji35).toNat)) = ji37 := shl_small hji37
                                        have hji37u : (IntKind.i64.wrap (2 ^ min (ji35).toNat 64)) = ji37 := by have h_ := hji37_; rw [Int.one_mul] at h_; exact h_
                                        have hji37v : (ji35) ≤ 64 → (IntKind.i64.wrap (2 ^ (ji35).toNat)) = ji37 := fun hle_ => by have h_ := hji37z hle_; rw [Int.one_mul] at h_; exact h_
                                        have hji37y : (wrap64 (1 * 2 ^ min (ji35).toNat 64)) = ji37 := (i64_w _).symm.trans hji37_
                                        have hji37x : (ji35) ≤ 64 → (wrap64 (1 * 2 ^ (ji35).toNat)) = ji37 := fun h_ => (i64_w _).symm.trans (hji37z h_)
                                        have H' := Aside0.mk H
                                        clear H
                                        have hnb38 := NB888_879.out
                                        have hnc38 := NB879_888.out
                                        have hnb39 := NB888_883.out
                                        have hnc39 := NB883_888.out
                                        have hcz40_0 : wr.cell? ⟨gb888, 0, none⟩ = some (.int .i64 ((rd_T77 y884 x52_3).f0)) := (blk_cell BK888.out 0).trans rfl
                                        have hcz40_1 : wr.cell? ⟨gb888, 1, none⟩ = some (.int .i64 ((rd_T77 y884 x52_3).f1)) := (blk_cell BK888.out 1).trans rfl
                                        have hfz40_0 := blk_frozen BK888.out 0
                                        have hfz40_1 := blk_frozen BK888.out 1
                                        go_wp2
                                        repeat (go_quiet (fail); try go_wp2)
                                        go_roundg k5
                                        case measure => have := HJ3.out; have := HK2.out; have := HK3.out; have := HJ24.out; have := HK5.out; omega
                                        case rel => exact ⟨(Go.bits .or .i64 x14_5 (ji37)), (wrap64 (x87_5 + 1)), (by first | rfl | (simp; done) | (simp only [← hji37] <;> (first | rfl | simp)) | (simp [*]; done)), (by first | rfl | (simp; done) | (simp [*]; done)), H', ⟨by have := HJ3.out; have := HK2.out; have := HK3.out; have := HJ24.out; have := HK5.out; omega⟩, ⟨by (with_reducible repeat (first | apply Kd.R_alloc | apply Kd.R_drewN | apply Kd.R_drew)); exact HO_50.out⟩, ⟨by (with_reducible repeat (first | apply Kd.R_alloc | apply Kd.R_drewN | apply Kd.R_drew)); exact HO_884001.out⟩, ⟨by (with_reducible repeat (first | refine blk_drewN ?_ _ | refine blk_drew ?_ | refine blk_alloc ?_ _)); exact BK879.out⟩, ⟨by (with_reducible repeat (first | refine blk_drewN ?_ _ | refine blk_drew ?_ | refine blk_alloc ?_ _)); exact BK883.out⟩, ⟨by (with_reducible repeat (first | refine blk_drewN ?_ _ | refine blk_drew ?_ | refine blk_alloc ?_ _)); exact BK888.out⟩, ⟨by repeat (first | (with_reducible first | exact HB.out | apply below_alloc | apply pw_below_drewN | apply below_drew1 | refine below_set ?_ GE879.out | refine below_set ?_ GE883.out | refine below_set ?_ GE888.out) | exact HB.out)⟩⟩
                                      · rw [if_neg c36] at H
                                        exact absurd H (by simp)
                                    · rw [if_neg c34] at H
                                      have c34b0 : decide (x87_5 < a2) = false := decide_eq_false c34
                                      clear c34
                                      by_cases c41 : x884001_3.length < 17592186044416
                                      · rw [if_pos c41] at H
                                        have LMc41 := Aside0.mk c41
                                        clear c41
                                        obtain ⟨y891, hy891⟩ : ∃ y_ : List Int, y_ = (x884001_3 ++ [x14_5]) := ⟨_, rfl⟩
                                        replace H : (impl_GridBoard.l1 k5 a0 a1 a2 x43_2 (wrap64 (a0 * a1)) x43_2 y884 (y884.length : Int) (wrap64 (x52_3 + 1)) (wrap64 (a0 * a1)) y891) = some (r1, r2, r3) := by first | (rw [hy891]; with_reducible exact H) | (have H2_ := (Option.bind_some _ _).symm.trans H; rw [hy891]; with_reducible exact H2_) | (have H2_ := (Option.bind_some _ _).symm.trans H; with_reducible exact H2_) | with_reducible exact H | (rw [hy891]; exact H) | exact H
                                        have Ny891 := Aside0.mk hy891
                                        clear hy891
                                        have H' := Aside0.mk H
                                        clear H
                                        have hnb42 := NB883_879.out
                                        have hnc42 := NB879_883.out
                                        have hnb43 := NB883_888.out
                                        have hnc43 := NB888_883.out
                                        have hcz44_0 : wr.cell? ⟨gb883, 0, none⟩ = some (.int .i64 (wrap64 (a0 * a1))) := (blk_cell BK883.out 0).trans rfl
                                        have hcz44_1 : wr.cell? ⟨gb883, 1, none⟩ = some (u884001) := (blk_cell BK883.out 1).trans rfl
                                        have hfz44_0 := blk_frozen BK883.out 0
                                        have hfz44_1 := blk_frozen BK883.out 1
                                        go_wp2_with (first | ((with_reducible refine gate_builtin (b := .append) (xs := #[.tmp 106, .tmp 108]) rfl ?_); at_builtin; refine Kd.R_append (Kd.int .i64) (w0 := w) w.heap.size rfl (.tmp 106) (.tmp 108) 22 2 (.int .i64 0) 8 rfl Try.underlying22 info2 rfl (by decide) (by omega) u884001 x884001_3 x14_5 [.int .i64 x14_5] (fun _ => True) (fun _ => False) rfl rfl ?aP (fun _ hk => hk.elim) ?aF ?aO ?aB ?aS ?aL ?_; (case aP => exact rfl); (case aB => exact (by repeat (first | (with_reducible first | exact HB.out | apply below_alloc | apply pw_below_drewN | apply below_drew1 | refine below_set ?_ GE879.out | refine below_set ?_ GE883.out | refine below_set ?_ GE888.out) | exact HB.out))); (case aF => exact (fun _ _ => trivial)); (case aO => exact (by (with_reducible repeat (first | apply Kd.R_alloc | apply Kd.R_drewN | apply Kd.R_drew)); exact HO_884001.out)); (case aS => exact (below_size (by repeat (first | (with_reducible first | exact HB.out | apply below_alloc | apply pw_below_drewN | apply below_drew1 | refine below_set ?_ GE879.out | refine below_set ?_ GE883.out | refine below_set ?_ GE888.out) | exact HB.out)))); (case aL => have := LMc41.out; omega); intro v892 w45 ho hb hg hat; rw [← Ny891.out] at ho; have n0_ := Aside0.mk (Kd.R_over' (by (with_reducible repeat (first | apply Kd.R_alloc | apply Kd.R_drewN | apply Kd.R_drew)); exact HO_50.out) (Kd.R_typed (by (with_reducible repeat (first | apply Kd.R_alloc | apply Kd.R_drewN | apply Kd.R_drew)); exact HO_884001.out)) (by decide) hg); have n1_ := Aside0.mk (blk_grown (g := gb879) (o := .cells #[.int .i64 0, .slice none 0 0] 27 (0, 0)) (by (with_reducible repeat (first | refine blk_drewN ?_ _ | refine blk_drew ?_ | refine blk_alloc ?_ _)); exact BK879.out) hg (Kd.R_ne HO_884001.out BK879.out (by decide))); have n2_ := Aside0.mk (blk_grown (g := gb883) (o := .cells #[.int .i64 (wrap64 (a0 * a1)), u884001] 27 (0, 0)) (by (with_reducible repeat (first | refine blk_drewN ?_ _ | refine blk_drew ?_ | refine blk_alloc ?_ _)); exact BK883.out) hg (Kd.R_ne HO_884001.out BK883.out (by decide))); have n3_ := Aside0.mk (blk_grown (g := gb888) (o := .cells #[.int .i64 ((rd_T77 y884 x52_3).f0), .int .i64 ((rd_T77 y884 x52_3).f1)] 77 (0, 0)) (by (with_reducible repeat (first | refine blk_drewN ?_ _ | refine blk_drew ?_ | refine blk_alloc ?_ _)); exact BK888.out) hg (Kd.R_ne HO_884001.out BK888.out (by decide))); have n4_ := Aside0.mk (hb); have n5_ := Aside0.mk (ho); clear HO_50; clear BK879; clear BK883; clear BK888; clear HB; clear HO_884001; have HO_50 := n0_; have BK879 := n1_; have BK883 := n2_; have BK888 := n3_; have HB := n4_; have HO893 := n5_; clear n0_ n1_ n2_ n3_ n4_ n5_; clear ho hb hg hat; obtain ⟨Ao46, co46, eo46⟩ := Kd.R_slice HO893.out; subst eo46; have hcz47_0 : w45.cell? ⟨gb883, 0, none⟩ = some (.int .i64 (wrap64 (a0 * a1))) := (blk_cell BK883.out 0).trans rfl; have hcz47_1 : w45.cell? ⟨gb883, 1, none⟩ = some (u884001) := (blk_cell BK883.out 1).trans rfl; have hfz47_0 := blk_frozen BK883.out 0; have hfz47_1 := blk_frozen BK883.out 1))
                                        repeat (go_quiet (first | ((with_reducible refine gate_builtin (b := .append) (xs := #[.tmp 106, .tmp 108]) rfl ?_); at_builtin; refine Kd.R_append (Kd.int .i64) (w0 := w) w.heap.size rfl (.tmp 106) (.tmp 108) 22 2 (.int .i64 0) 8 rfl Try.underlying22 info2 rfl (by decide) (by omega) u884001 x884001_3 x14_5 [.int .i64 x14_5] (fun _ => True) (fun _ => False) rfl rfl ?aP (fun _ hk => hk.elim) ?aF ?aO ?aB ?aS ?aL ?_; (case aP => exact rfl); (case aB => exact (by repeat (first | (with_reducible first | exact HB.out | apply below_alloc | apply pw_below_drewN | apply below_drew1 | refine below_set ?_ GE879.out | refine below_set ?_ GE883.out | refine below_set ?_ GE888.out) | exact HB.out))); (case aF => exact (fun _ _ => trivial)); (case aO => exact (by (with_reducible repeat (first | apply Kd.R_alloc | apply Kd.R_drewN | apply Kd.R_drew)); exact HO_884001.out)); (case aS => exact (below_size (by repeat (first | (with_reducible first | exact HB.out | apply below_alloc | apply pw_below_drewN | apply below_drew1 | refine below_set ?_ GE879.out | refine below_set ?_ GE883.out | refine below_set ?_ GE888.out) | exact HB.out)))); (case aL => have := LMc41.out; omega); intro v892 w45 ho hb hg hat; rw [← Ny891.out] at ho; have n0_ := Aside0.mk (Kd.R_over' (by (with_reducible repeat (first | apply Kd.R_alloc | apply Kd.R_drewN | apply Kd.R_drew)); exact HO_50.out) (Kd.R_typed (by (with_reducible repeat (first | apply Kd.R_alloc | apply Kd.R_drewN | apply Kd.R_drew)); exact HO_884001.out)) (by decide) hg); have n1_ := Aside0.mk (blk_grown (g := gb879) (o := .cells #[.int .i64 0, .slice none 0 0] 27 (0, 0)) (by (with_reducible repeat (first | refine blk_drewN ?_ _ | refine blk_drew ?_ | refine blk_alloc ?_ _)); exact BK879.out) hg (Kd.R_ne HO_884001.out BK879.out (by decide))); have n2_ := Aside0.mk (blk_grown (g := gb883) (o := .cells #[.int .i64 (wrap64 (a0 * a1)), u884001] 27 (0, 0)) (by (with_reducible repeat (first | refine blk_drewN ?_ _ | refine blk_drew ?_ | refine blk_alloc ?_ _)); exact BK883.out) hg (Kd.R_ne HO_884001.out BK883.out (by decide))); have n3_ := Aside0.mk (blk_grown (g := gb888) (o := .cells #[.int .i64 ((rd_T77 y884 x52_3).f0), .int .i64 ((rd_T77 y884 x52_3).f1)] 77 (0, 0)) (by (with_reducible repeat (first | refine blk_drewN ?_ _ | refine blk_drew ?_ | refine blk_alloc ?_ _)); exact BK888.out) hg (Kd.R_ne HO_884001.out BK888.out (by decide))); have n4_ := Aside0.mk (hb); have n5_ := Aside0.mk (ho); clear HO_50; clear BK879; clear BK883; clear BK888; clear HB; clear HO_884001; have HO_50 := n0_; have BK879 := n1_; have BK883 := n2_; have BK888 := n3_; have HB := n4_; have HO893 := n5_; clear n0_ n1_ n2_ n3_ n4_ n5_; clear ho hb hg hat; obtain ⟨Ao46, co46, eo46⟩ := Kd.R_slice HO893.out; subst eo46; have hcz47_0 : w45.cell? ⟨gb883, 0, none⟩ = some (.int .i64 (wrap64 (a0 * a1))) := (blk_cell BK883.out 0).trans rfl; have hcz47_1 : w45.cell? ⟨gb883, 1, none⟩ = some (u884001) := (blk_cell BK883.out 1).trans rfl; have hfz47_0 := blk_frozen BK883.out 0; have hfz47_1 := blk_frozen BK883.out 1)); try go_wp2_with (first | ((with_reducible refine gate_builtin (b := .append) (xs := #[.tmp 106, .tmp 108]) rfl ?_); at_builtin; refine Kd.R_append (Kd.int .i64) (w0 := w) w.heap.size rfl (.tmp 106) (.tmp 108) 22 2 (.int .i64 0) 8 rfl Try.underlying22 info2 rfl (by decide) (by omega) u884001 x884001_3 x14_5 [.int .i64 x14_5] (fun _ => True) (fun _ => False) rfl rfl ?aP (fun _ hk => hk.elim) ?aF ?aO ?aB ?aS ?aL ?_; (case aP => exact rfl); (case aB => exact (by repeat (first | (with_reducible first | exact HB.out | apply below_alloc | apply pw_below_drewN | apply below_drew1 | refine below_set ?_ GE879.out | refine below_set ?_ GE883.out | refine below_set ?_ GE888.out) | exact HB.out))); (case aF => exact (fun _ _ => trivial)); (case aO => exact (by (with_reducible repeat (first | apply Kd.R_alloc | apply Kd.R_drewN | apply Kd.R_drew)); exact HO_884001.out)); (case aS => exact (below_size (by repeat (first | (with_reducible first | exact HB.out | apply below_alloc | apply pw_below_drewN | apply below_drew1 | refine below_set ?_ GE879.out | refine below_set ?_ GE883.out | refine below_set ?_ GE888.out) | exact HB.out)))); (case aL => have := LMc41.out; omega); intro v892 w45 ho hb hg hat; rw [← Ny891.out] at ho; have n0_ := Aside0.mk (Kd.R_over' (by (with_reducible repeat (first | apply Kd.R_alloc | apply Kd.R_drewN | apply Kd.R_drew)); exact HO_50.out) (Kd.R_typed (by (with_reducible repeat (first | apply Kd.R_alloc | apply Kd.R_drewN | apply Kd.R_drew)); exact HO_884001.out)) (by decide) hg); have n1_ := Aside0.mk (blk_grown (g := gb879) (o := .cells #[.int .i64 0, .slice none 0 0] 27 (0, 0)) (by (with_reducible repeat (first | refine blk_drewN ?_ _ | refine blk_drew ?_ | refine blk_alloc ?_ _)); exact BK879.out) hg (Kd.R_ne HO_884001.out BK879.out (by decide))); have n2_ := Aside0.mk (blk_grown (g := gb883) (o := .cells #[.int .i64 (wrap64 (a0 * a1)), u884001] 27 (0, 0)) (by (with_reducible repeat (first | refine blk_drewN ?_ _ | refine blk_drew ?_ | refine blk_alloc ?_ _)); exact BK883.out) hg (Kd.R_ne HO_884001.out BK883.out (by decide))); have n3_ := Aside0.mk (blk_grown (g := gb888) (o := .cells #[.int .i64 ((rd_T77 y884 x52_3).f0), .int .i64 ((rd_T77 y884 x52_3).f1)] 77 (0, 0)) (by (with_reducible repeat (first | refine blk_drewN ?_ _ | refine blk_drew ?_ | refine blk_alloc ?_ _)); exact BK888.out) hg (Kd.R_ne HO_884001.out BK888.out (by decide))); have n4_ := Aside0.mk (hb); have n5_ := Aside0.mk (ho); clear HO_50; clear BK879; clear BK883; clear BK888; clear HB; clear HO_884001; have HO_50 := n0_; have BK879 := n1_; have BK883 := n2_; have BK888 := n3_; have HB := n4_; have HO893 := n5_; clear n0_ n1_ n2_ n3_ n4_ n5_; clear ho hb hg hat; obtain ⟨Ao46, co46, eo46⟩ := Kd.R_slice HO893.out; subst eo46; have hcz47_0 : w45.cell? ⟨gb883, 0, none⟩ = some (.int .i64 (wrap64 (a0 * a1))) := (blk_cell BK883.out 0).trans rfl; have hcz47_1 : w45.cell? ⟨gb883, 1, none⟩ = some (u884001) := (blk_cell BK883.out 1).trans rfl; have hfz47_0 := blk_frozen BK883.out 0; have hfz47_1 := blk_frozen BK883.out 1)))
                                        go_roundg k5
                                        case measure => have := HJ3.out; have := HK2.out; have := HK3.out; have := HJ24.out; have := HK5.out; omega
                                        case rel => exact ⟨(wrap64 (x52_3 + 1)), (y891), (.slice Ao46 y891.length co46), (by first | rfl | (simp; done) | (simp [*]; done)), H', ⟨by have := HJ3.out; have := HK2.out; have := HK3.out; have := HJ24.out; have := HK5.out; omega⟩, ⟨by (with_reducible repeat (first | apply Kd.R_alloc | apply Kd.R_drewN | apply Kd.R_drew)); exact Kd.R_mono (Kd.R_far (p := ⟨gb883, 1, none⟩) (Kd.R_types HO_50.out BK883.out (by decide)) (fun _ hk => hk.2) (.slice Ao46 y891.length co46)) (fun _ hk => trivial)⟩, ⟨by (with_reducible repeat (first | apply Kd.R_alloc | apply Kd.R_drewN | apply Kd.R_drew)); exact Kd.R_mono (Kd.R_far (p := ⟨gb883, 1, none⟩) (Kd.R_types HO893.out BK883.out (by decide)) (fun _ hk => hk.2) (.slice Ao46 y891.length co46)) (fun _ hk => trivial)⟩, ⟨by (with_reducible repeat (first | refine blk_drewN ?_ _ | refine blk_drew ?_ | refine blk_alloc ?_ _)); refine blk_far ?_ NB879_883.out _; (with_reducible repeat (first | refine blk_drewN ?_ _ | refine blk_drew ?_ | refine blk_alloc ?_ _)); exact BK879.out⟩, ⟨by (with_reducible repeat (first | refine blk_drewN ?_ _ | refine blk_drew ?_ | refine blk_alloc ?_ _)); refine blk_put (cs := #[.int .i64 (wrap64 (a0 * a1)), u884001]) ?_ 1 _ rfl; (with_reducible repeat (first | refine blk_drewN ?_ _ | refine blk_drew ?_ | refine blk_alloc ?_ _)); exact BK883.out⟩, ⟨by repeat (first | (with_reducible first | exact HB.out | apply below_alloc | apply pw_below_drewN | apply below_drew1 | refine below_set ?_ GE879.out | refine below_set ?_ GE883.out | refine below_set ?_ GE888.out) | exact HB.out)⟩⟩
                                      · rw [if_neg c41] at H
                                        exact absurd H (by simp)
                      · rw [if_neg c23] at H
                        exact absurd H (by simp)
                    · rw [if_neg c22] at H
                      exact absurd H (by simp)
                  · rw [if_neg c21] at H
                    have c21b0 : decide (x52_3 < (y884.length : Int)) = false := decide_eq_false c21
                    clear c21
                    have H' := Aside0.mk H
                    clear H
                    go_wp2
                    repeat (go_quiet (fail); try go_wp2)
                    go_roundg k3
                    case measure => have := HJ3.out; have := HK2.out; have := HK3.out; omega
                    case rel => exact ⟨(wrap64 (x43_2 + 1)), (x884001_3), (u884001), (by first | rfl | (simp; done) | (simp [*]; done)), H', ⟨by have := HJ3.out; have := HK2.out; have := HK3.out; omega⟩, ⟨by (with_reducible repeat (first | apply Kd.R_alloc | apply Kd.R_drewN | apply Kd.R_drew)); exact HO_884001.out⟩, ⟨by (with_reducible repeat (first | refine blk_drewN ?_ _ | refine blk_drew ?_ | refine blk_alloc ?_ _)); exact BK879.out⟩, ⟨by (with_reducible repeat (first | refine blk_drewN ?_ _ | refine blk_drew ?_ | refine blk_alloc ?_ _)); exact BK883.out⟩, ⟨by repeat (first | (with_reducible first | exact HB.out | apply below_alloc | apply pw_below_drewN | apply below_drew1 | refine below_set ?_ GE879.out | refine below_set ?_ GE883.out) | exact HB.out)⟩⟩
            · rw [if_neg c17] at H
              have c17b0 : decide (x43_2 < (wrap64 (a0 * a1))) = false := decide_eq_false c17
              clear c17
              replace H := Option.bind_eq_some_iff.mp H
              obtain ⟨t894, A480, H⟩ := H
              replace H : ((slices_Compact_int64_int64.f t894).bind fun t895 => (if (t895.length : Int) > 100 then (some (0, ([] : List Int), 3)) else (some ((wrap64 (a0 * a1)), t895, 0)))) = some (r1, r2, r3) := H
              have A48 := Aside0.mk A480
              clear A480
              replace H := Option.bind_eq_some_iff.mp H
              obtain ⟨t895, A490, H⟩ := H
              replace H : (if (t895.length : Int) > 100 then (some (0, ([] : List Int), 3)) else (some ((wrap64 (a0 * a1)), t895, 0))) = some (r1, r2, r3) := H
              have A49 := Aside0.mk A490
              clear A490
              by_cases c50 : (t895.length : Int) > 100
              · rw [if_pos c50] at H
                have c50b0 : decide (100 < (t895.length : Int)) = true := decide_eq_true c50
                have c50b1 : decide (100 < t895.length) = true := decide_eq_true (by omega)
                clear c50
                simp only [Option.some.injEq, Prod.mk.injEq] at H
                obtain ⟨rfl, rfl, rfl⟩ := H
                have hnb51 := NB883_879.out
                have hnc51 := NB879_883.out
                have hcz52_0 : wr.cell? ⟨gb883, 0, none⟩ = some (.int .i64 (wrap64 (a0 * a1))) := (blk_cell BK883.out 0).trans rfl
                have hcz52_1 : wr.cell? ⟨gb883, 1, none⟩ = some (u884001) := (blk_cell BK883.out 1).trans rfl
                have hfz52_0 := blk_frozen BK883.out 0
                have hfz52_1 := blk_frozen BK883.out 1
                obtain ⟨Ao53, co53, eo53⟩ := Kd.R_slice HO_884001.out
                subst eo53
                go_wp2_with (first | (go_at_call 88; (with_reducible refine (slices_Sort_int64_int64.calls (fun k_ => some k_ = (.slice Ao53 x884001_2.length co53 : Value).ownBlock) (.slice Ao53 x884001_2.length co53) x884001_2 t894 w _ ?side1 ?side2 A48.out).mono ?_); (case side1 => repeat (first | (with_reducible first | exact HB.out | apply below_alloc | apply pw_below_drewN | apply below_drew1 | refine below_set ?_ GE879.out | refine below_set ?_ GE883.out) | exact HB.out)); (case side2 => exact Kd.R_tight rfl HO_884001.out); rintro e w54 ⟨rfl, hy0, hb, hkp⟩; have n0_ := Aside0.mk (Kd.R_reok rfl hy0 (fun k_ e_ => HO_884001.out.1 k_ e_)); have n1_ := Aside0.mk (blk_kept (by (with_reducible repeat (first | refine blk_drewN ?_ _ | refine blk_drew ?_ | refine blk_alloc ?_ _)); exact BK879.out) hkp (fun hs_ => (fun e_ => (Kd.R_ne HO_884001.out BK879.out (by decide)) e_) hs_)); have n2_ := Aside0.mk (blk_kept (by (with_reducible repeat (first | refine blk_drewN ?_ _ | refine blk_drew ?_ | refine blk_alloc ?_ _)); exact BK883.out) hkp (fun hs_ => (fun e_ => (Kd.R_ne HO_884001.out BK883.out (by decide)) e_) hs_)); have n3_ := Aside0.mk (hb); clear HO_884001; clear BK879; clear BK883; clear HB; have HO_884001 := n0_; have BK879 := n1_; have BK883 := n2_; have HB := n3_; clear n0_ n1_ n2_ n3_; (try clear hb); (try clear hkp); (try clear hy0); have hcz55_0 : w54.cell? ⟨gb883, 0, none⟩ = some (.int .i64 (wrap64 (a0 * a1))) := (blk_cell BK883.out 0).trans rfl; have hcz55_1 : w54.cell? ⟨gb883, 1, none⟩ = some (.slice Ao53 x884001_2.length co53) := (blk_cell BK883.out 1).trans rfl; have hfz55_0 := blk_frozen BK883.out 0; have hfz55_1 := blk_frozen BK883.out 1) | (go_at_call 89; (with_reducible refine (slices_Compact_int64_int64.calls (fun k_ => some k_ = (.slice Ao53 x884001_2.length co53 : Value).ownBlock) (.slice Ao53 x884001_2.length co53) t894 t895 w _ ?side1 ?side2 A49.out).mono ?_); (case side1 => repeat (first | (with_reducible first | exact HB.out | apply below_alloc | apply pw_below_drewN | apply below_drew1 | refine below_set ?_ GE879.out | refine below_set ?_ GE883.out) | exact HB.out)); (case side2 => exact Kd.R_tight rfl HO_884001.out); rintro e w56 ⟨v896, rfl, ho0, hb, hkp⟩; have n0_ := Aside0.mk (blk_kept (by (with_reducible repeat (first | refine blk_drewN ?_ _ | refine blk_drew ?_ | refine blk_alloc ?_ _)); exact BK879.out) hkp (fun hs_ => (fun e_ => (Kd.R_ne HO_884001.out BK879.out (by decide)) e_) hs_)); have n1_ := Aside0.mk (blk_kept (by (with_reducible repeat (first | refine blk_drewN ?_ _ | refine blk_drew ?_ | refine blk_alloc ?_ _)); exact BK883.out) hkp (fun hs_ => (fun e_ => (Kd.R_ne HO_884001.out BK883.out (by decide)) e_) hs_)); have n2_ := Aside0.mk (Kd.R_mono (ok' := fun k_ => True) ho0 (fun k_ hk_ => trivial)); have n3_ := Aside0.mk (hb); clear BK879; clear BK883; clear HB; clear HO_884001; have BK879 := n0_; have BK883 := n1_; have HO897 := n2_; have HB := n3_; clear n0_ n1_ n2_ n3_; (try clear hb); (try clear hkp); (try clear ho0); obtain ⟨Ao57, co57, eo57⟩ := Kd.R_slice HO897.out; subst eo57; have hcz58_0 : w56.cell? ⟨gb883, 0, none⟩ = some (.int .i64 (wrap64 (a0 * a1))) := (blk_cell BK883.out 0).trans rfl; have hcz58_1 : w56.cell? ⟨gb883, 1, none⟩ = some (.slice Ao53 x884001_2.length co53) := (blk_cell BK883.out 1).trans rfl; have hfz58_0 := blk_frozen BK883.out 0; have hfz58_1 := blk_frozen BK883.out 1; have hcz59_0 : w56.cell? ⟨gb879, 0, none⟩ = some (.int .i64 0) := (blk_cell BK879.out 0).trans rfl; have hcz59_1 : w56.cell? ⟨gb879, 1, none⟩ = some (.slice none 0 0) := (blk_cell BK879.out 1).trans rfl; have hfz59_0 := blk_frozen BK879.out 0; have hfz59_1 := blk_frozen BK879.out 1))
                repeat (go_quiet (first | (go_at_call 88; (with_reducible refine (slices_Sort_int64_int64.calls (fun k_ => some k_ = (.slice Ao53 x884001_2.length co53 : Value).ownBlock) (.slice Ao53 x884001_2.length co53) x884001_2 t894 w _ ?side1 ?side2 A48.out).mono ?_); (case side1 => repeat (first | (with_reducible first | exact HB.out | apply below_alloc | apply pw_below_drewN | apply below_drew1 | refine below_set ?_ GE879.out | refine below_set ?_ GE883.out) | exact HB.out)); (case side2 => exact Kd.R_tight rfl HO_884001.out); rintro e w54 ⟨rfl, hy0, hb, hkp⟩; have n0_ := Aside0.mk (Kd.R_reok rfl hy0 (fun k_ e_ => HO_884001.out.1 k_ e_)); have n1_ := Aside0.mk (blk_kept (by (with_reducible repeat (first | refine blk_drewN ?_ _ | refine blk_drew ?_ | refine blk_alloc ?_ _)); exact BK879.out) hkp (fun hs_ => (fun e_ => (Kd.R_ne HO_884001.out BK879.out (by decide)) e_) hs_)); have n2_ := Aside0.mk (blk_kept (by (with_reducible repeat (first | refine blk_drewN ?_ _ | refine blk_drew ?_ | refine blk_alloc ?_ _)); exact BK883.out) hkp (fun hs_ => (fun e_ => (Kd.R_ne HO_884001.out BK883.out (by decide)) e_) hs_)); have n3_ := Aside0.mk (hb); clear HO_884001; clear BK879; clear BK883; clear HB; have HO_884001 := n0_; have BK879 := n1_; have BK883 := n2_; have HB := n3_; clear n0_ n1_ n2_ n3_; (try clear hb); (try clear hkp); (try clear hy0); have hcz55_0 : w54.cell? ⟨gb883, 0, none⟩ = some (.int .i64 (wrap64 (a0 * a1))) := (blk_cell BK883.out 0).trans rfl; have hcz55_1 : w54.cell? ⟨gb883, 1, none⟩ = some (.slice Ao53 x884001_2.length co53) := (blk_cell BK883.out 1).trans rfl; have hfz55_0 := blk_frozen BK883.out 0; have hfz55_1 := blk_frozen BK883.out 1) | (go_at_call 89; (with_reducible refine (slices_Compact_int64_int64.calls (fun k_ => some k_ = (.slice Ao53 x884001_2.length co53 : Value).ownBlock) (.slice Ao53 x884001_2.length co53) t894 t895 w _ ?side1 ?side2 A49.out).mono ?_); (case side1 => repeat (first | (with_reducible first | exact HB.out | apply below_alloc | apply pw_below_drewN | apply below_drew1 | refine below_set ?_ GE879.out | refine below_set ?_ GE883.out) | exact HB.out)); (case side2 => exact Kd.R_tight rfl HO_884001.out); rintro e w56 ⟨v896, rfl, ho0, hb, hkp⟩; have n0_ := Aside0.mk (blk_kept (by (with_reducible repeat (first | refine blk_drewN ?_ _ | refine blk_drew ?_ | refine blk_alloc ?_ _)); exact BK879.out) hkp (fun hs_ => (fun e_ => (Kd.R_ne HO_884001.out BK879.out (by decide)) e_) hs_)); have n1_ := Aside0.mk (blk_kept (by (with_reducible repeat (first | refine blk_drewN ?_ _ | refine blk_drew ?_ | refine blk_alloc ?_ _)); exact BK883.out) hkp (fun hs_ => (fun e_ => (Kd.R_ne HO_884001.out BK883.out (by decide)) e_) hs_)); have n2_ := Aside0.mk (Kd.R_mono (ok' := fun k_ => True) ho0 (fun k_ hk_ => trivial)); have n3_ := Aside0.mk (hb); clear BK879; clear BK883; clear HB; clear HO_884001; have BK879 := n0_; have BK883 := n1_; have HO897 := n2_; have HB := n3_; clear n0_ n1_ n2_ n3_; (try clear hb); (try clear hkp); (try clear ho0); obtain ⟨Ao57, co57, eo57⟩ := Kd.R_slice HO897.out; subst eo57; have hcz58_0 : w56.cell? ⟨gb883, 0, none⟩ = some (.int .i64 (wrap64 (a0 * a1))) := (blk_cell BK883.out 0).trans rfl; have hcz58_1 : w56.cell? ⟨gb883, 1, none⟩ = some (.slice Ao53 x884001_2.length co53) := (blk_cell BK883.out 1).trans rfl; have hfz58_0 := blk_frozen BK883.out 0; have hfz58_1 := blk_frozen BK883.out 1; have hcz59_0 : w56.cell? ⟨gb879, 0, none⟩ = some (.int .i64 0) := (blk_cell BK879.out 0).trans rfl; have hcz59_1 : w56.cell? ⟨gb879, 1, none⟩ = some (.slice none 0 0) := (blk_cell BK879.out 1).trans rfl; have hfz59_0 := blk_frozen BK879.out 0; have hfz59_1 := blk_frozen BK879.out 1)); try go_wp2_with (first | (go_at_call 88; (with_reducible refine (slices_Sort_int64_int64.calls (fun k_ => some k_ = (.slice Ao53 x884001_2.length co53 : Value).ownBlock) (.slice Ao53 x884001_2.length co53) x884001_2 t894 w _ ?side1 ?side2 A48.out).mono ?_); (case side1 => repeat (first | (with_reducible first | exact HB.out | apply below_alloc | apply pw_below_drewN | apply below_drew1 | refine below_set ?_ GE879.out | refine below_set ?_ GE883.out) | exact HB.out)); (case side2 => exact Kd.R_tight rfl HO_884001.out); rintro e w54 ⟨rfl, hy0, hb, hkp⟩; have n0_ := Aside0.mk (Kd.R_reok rfl hy0 (fun k_ e_ => HO_884001.out.1 k_ e_)); have n1_ := Aside0.mk (blk_kept (by (with_reducible repeat (first | refine blk_drewN ?_ _ | refine blk_drew ?_ | refine blk_alloc ?_ _)); exact BK879.out) hkp (fun hs_ => (fun e_ => (Kd.R_ne HO_884001.out BK879.out (by decide)) e_) hs_)); have n2_ := Aside0.mk (blk_kept (by (with_reducible repeat (first | refine blk_drewN ?_ _ | refine blk_drew ?_ | refine blk_alloc ?_ _)); exact BK883.out) hkp (fun hs_ => (fun e_ => (Kd.R_ne HO_884001.out BK883.out (by decide)) e_) hs_)); have n3_ := Aside0.mk (hb); clear HO_884001; clear BK879; clear BK883; clear HB; have HO_884001 := n0_; have BK879 := n1_; have BK883 := n2_; have HB := n3_; clear n0_ n1_ n2_ n3_; (try clear hb); (try clear hkp); (try clear hy0); have hcz55_0 : w54.cell? ⟨gb883, 0, none⟩ = some (.int .i64 (wrap64 (a0 * a1))) := (blk_cell BK883.out 0).trans rfl; have hcz55_1 : w54.cell? ⟨gb883, 1, none⟩ = some (.slice Ao53 x884001_2.length co53) := (blk_cell BK883.out 1).trans rfl; have hfz55_0 := blk_frozen BK883.out 0; have hfz55_1 := blk_frozen BK883.out 1) | (go_at_call 89; (with_reducible refine (slices_Compact_int64_int64.calls (fun k_ => some k_ = (.slice Ao53 x884001_2.length co53 : Value).ownBlock) (.slice Ao53 x884001_2.length co53) t894 t895 w _ ?side1 ?side2 A49.out).mono ?_); (case side1 => repeat (first | (with_reducible first | exact HB.out | apply below_alloc | apply pw_below_drewN | apply below_drew1 | refine below_set ?_ GE879.out | refine below_set ?_ GE883.out) | exact HB.out)); (case side2 => exact Kd.R_tight rfl HO_884001.out); rintro e w56 ⟨v896, rfl, ho0, hb, hkp⟩; have n0_ := Aside0.mk (blk_kept (by (with_reducible repeat (first | refine blk_drewN ?_ _ | refine blk_drew ?_ | refine blk_alloc ?_ _)); exact BK879.out) hkp (fun hs_ => (fun e_ => (Kd.R_ne HO_884001.out BK879.out (by decide)) e_) hs_)); have n1_ := Aside0.mk (blk_kept (by (with_reducible repeat (first | refine blk_drewN ?_ _ | refine blk_drew ?_ | refine blk_alloc ?_ _)); exact BK883.out) hkp (fun hs_ => (fun e_ => (Kd.R_ne HO_884001.out BK883.out (by decide)) e_) hs_)); have n2_ := Aside0.mk (Kd.R_mono (ok' := fun k_ => True) ho0 (fun k_ hk_ => trivial)); have n3_ := Aside0.mk (hb); clear BK879; clear BK883; clear HB; clear HO_884001; have BK879 := n0_; have BK883 := n1_; have HO897 := n2_; have HB := n3_; clear n0_ n1_ n2_ n3_; (try clear hb); (try clear hkp); (try clear ho0); obtain ⟨Ao57, co57, eo57⟩ := Kd.R_slice HO897.out; subst eo57; have hcz58_0 : w56.cell? ⟨gb883, 0, none⟩ = some (.int .i64 (wrap64 (a0 * a1))) := (blk_cell BK883.out 0).trans rfl; have hcz58_1 : w56.cell? ⟨gb883, 1, none⟩ = some (.slice Ao53 x884001_2.length co53) := (blk_cell BK883.out 1).trans rfl; have hfz58_0 := blk_frozen BK883.out 0; have hfz58_1 := blk_frozen BK883.out 1; have hcz59_0 : w56.cell? ⟨gb879, 0, none⟩ = some (.int .i64 0) := (blk_cell BK879.out 0).trans rfl; have hcz59_1 : w56.cell? ⟨gb879, 1, none⟩ = some (.slice none 0 0) := (blk_cell BK879.out 1).trans rfl; have hfz59_0 := blk_frozen BK879.out 0; have hfz59_1 := blk_frozen BK879.out 1)))
                refine bodyPost_ret (results_ct rfl _ _ gb879 27 #[.int .i64 0, .slice none 0 0] (0, 0) _ rfl (by (with_reducible repeat (first | refine blk_drewN ?_ _ | refine blk_drew ?_ | refine blk_alloc ?_ _)); refine blk_put (cs := #[.int .i64 0, .slice none 0 0]) ?_ 1 _ rfl; (with_reducible repeat (first | refine blk_drewN ?_ _ | refine blk_drew ?_ | refine blk_alloc ?_ _)); refine blk_put (cs := #[.int .i64 0, .slice none 0 0]) ?_ 0 _ rfl; (with_reducible repeat (first | refine blk_drewN ?_ _ | refine blk_drew ?_ | refine blk_alloc ?_ _)); refine blk_far ?_ NB879_883.out _; (with_reducible repeat (first | refine blk_drewN ?_ _ | refine blk_drew ?_ | refine blk_alloc ?_ _)); exact BK879.out) Try.underlying27 rfl (by kernel_rfl)) rfl ?_
                exact ⟨_, by first | rfl | (simp [errW_none, errW_some] <;> rfl) | (simp [*, errW_none, errW_some] <;> rfl), by first | exact Kd.R_nil _ _ _ _ _ | exact Kd.N_nil _ _ _ _ _ | exact Kd.V_nil _ _ _ _ _ | exact Kd.Q_nil _ _ _ _ _ | exact Kd.S_nil _ _ _ _ _, by repeat (first | (with_reducible first | exact HB.out | apply below_alloc | apply pw_below_drewN | apply below_drew1 | refine below_set ?_ GE879.out | refine below_set ?_ GE883.out) | exact HB.out)⟩
              · rw [if_neg c50] at H
                have c50b0 : decide (100 < (t895.length : Int)) = false := decide_eq_false c50
                have c50b1 : decide (100 < t895.length) = false := decide_eq_false (by omega)
                clear c50
                simp only [Option.some.injEq, Prod.mk.injEq] at H
                obtain ⟨rfl, rfl, rfl⟩ := H
                have hnb60 := NB883_879.out
                have hnc60 := NB879_883.out
                have hcz61_0 : wr.cell? ⟨gb883, 0, none⟩ = some (.int .i64 (wrap64 (a0 * a1))) := (blk_cell BK883.out 0).trans rfl
                have hcz61_1 : wr.cell? ⟨gb883, 1, none⟩ = some (u884001) := (blk_cell BK883.out 1).trans rfl
                have hfz61_0 := blk_frozen BK883.out 0
                have hfz61_1 := blk_frozen BK883.out 1
                obtain ⟨Ao62, co62, eo62⟩ := Kd.R_slice HO_884001.out
                subst eo62
                go_wp2_with (first | (go_at_call 88; (with_reducible refine (slices_Sort_int64_int64.calls (fun k_ => some k_ = (.slice Ao62 x884001_2.length co62 : Value).ownBlock) (.slice Ao62 x884001_2.length co62) x884001_2 t894 w _ ?side1 ?side2 A48.out).mono ?_); (case side1 => repeat (first | (with_reducible first | exact HB.out | apply below_alloc | apply pw_below_drewN | apply below_drew1 | refine below_set ?_ GE879.out | refine below_set ?_ GE883.out) | exact HB.out)); (case side2 => exact Kd.R_tight rfl HO_884001.out); rintro e w63 ⟨rfl, hy0, hb, hkp⟩; have n0_ := Aside0.mk (Kd.R_reok rfl hy0 (fun k_ e_ => HO_884001.out.1 k_ e_)); have n1_ := Aside0.mk (blk_kept (by (with_reducible repeat (first | refine blk_drewN ?_ _ | refine blk_drew ?_ | refine blk_alloc ?_ _)); exact BK879.out) hkp (fun hs_ => (fun e_ => (Kd.R_ne HO_884001.out BK879.out (by decide)) e_) hs_)); have n2_ := Aside0.mk (blk_kept (by (with_reducible repeat (first | refine blk_drewN ?_ _ | refine blk_drew ?_ | refine blk_alloc ?_ _)); exact BK883.out) hkp (fun hs_ => (fun e_ => (Kd.R_ne HO_884001.out BK883.out (by decide)) e_) hs_)); have n3_ := Aside0.mk (hb); clear HO_884001; clear BK879; clear BK883; clear HB; have HO_884001 := n0_; have BK879 := n1_; have BK883 := n2_; have HB := n3_; clear n0_ n1_ n2_ n3_; (try clear hb); (try clear hkp); (try clear hy0); have hcz64_0 : w63.cell? ⟨gb883, 0, none⟩ = some (.int .i64 (wrap64 (a0 * a1))) := (blk_cell BK883.out 0).trans rfl; have hcz64_1 : w63.cell? ⟨gb883, 1, none⟩ = some (.slice Ao62 x884001_2.length co62) := (blk_cell BK883.out 1).trans rfl; have hfz64_0 := blk_frozen BK883.out 0; have hfz64_1 := blk_frozen BK883.out 1) | (go_at_call 89; (with_reducible refine (slices_Compact_int64_int64.calls (fun k_ => some k_ = (.slice Ao62 x884001_2.length co62 : Value).ownBlock) (.slice Ao62 x884001_2.length co62) t894 t895 w _ ?side1 ?side2 A49.out).mono ?_); (case side1 => repeat (first | (with_reducible first | exact HB.out | apply below_alloc | apply pw_below_drewN | apply below_drew1 | refine below_set ?_ GE879.out | refine below_set ?_ GE883.out) | exact HB.out)); (case side2 => exact Kd.R_tight rfl HO_884001.out); rintro e w65 ⟨v896, rfl, ho0, hb, hkp⟩; have n0_ := Aside0.mk (blk_kept (by (with_reducible repeat (first | refine blk_drewN ?_ _ | refine blk_drew ?_ | refine blk_alloc ?_ _)); exact BK879.out) hkp (fun hs_ => (fun e_ => (Kd.R_ne HO_884001.out BK879.out (by decide)) e_) hs_)); have n1_ := Aside0.mk (blk_kept (by (with_reducible repeat (first | refine blk_drewN ?_ _ | refine blk_drew ?_ | refine blk_alloc ?_ _)); exact BK883.out) hkp (fun hs_ => (fun e_ => (Kd.R_ne HO_884001.out BK883.out (by decide)) e_) hs_)); have n2_ := Aside0.mk (Kd.R_mono (ok' := fun k_ => True) ho0 (fun k_ hk_ => trivial)); have n3_ := Aside0.mk (hb); clear BK879; clear BK883; clear HB; clear HO_884001; have BK879 := n0_; have BK883 := n1_; have HO897 := n2_; have HB := n3_; clear n0_ n1_ n2_ n3_; (try clear hb); (try clear hkp); (try clear ho0); obtain ⟨Ao66, co66, eo66⟩ := Kd.R_slice HO897.out; subst eo66; have hcz67_0 : w65.cell? ⟨gb883, 0, none⟩ = some (.int .i64 (wrap64 (a0 * a1))) := (blk_cell BK883.out 0).trans rfl; have hcz67_1 : w65.cell? ⟨gb883, 1, none⟩ = some (.slice Ao62 x884001_2.length co62) := (blk_cell BK883.out 1).trans rfl; have hfz67_0 := blk_frozen BK883.out 0; have hfz67_1 := blk_frozen BK883.out 1; have hcz68_0 : w65.cell? ⟨gb879, 0, none⟩ = some (.int .i64 0) := (blk_cell BK879.out 0).trans rfl; have hcz68_1 : w65.cell? ⟨gb879, 1, none⟩ = some (.slice none 0 0) := (blk_cell BK879.out 1).trans rfl; have hfz68_0 := blk_frozen BK879.out 0; have hfz68_1 := blk_frozen BK879.out 1))
                repeat (go_quiet (first | (go_at_call 88; (with_reducible refine (slices_Sort_int64_int64.calls (fun k_ => some k_ = (.slice Ao62 x884001_2.length co62 : Value).ownBlock) (.slice Ao62 x884001_2.length co62) x884001_2 t894 w _ ?side1 ?side2 A48.out).mono ?_); (case side1 => repeat (first | (with_reducible first | exact HB.out | apply below_alloc | apply pw_below_drewN | apply below_drew1 | refine below_set ?_ GE879.out | refine below_set ?_ GE883.out) | exact HB.out)); (case side2 => exact Kd.R_tight rfl HO_884001.out); rintro e w63 ⟨rfl, hy0, hb, hkp⟩; have n0_ := Aside0.mk (Kd.R_reok rfl hy0 (fun k_ e_ => HO_884001.out.1 k_ e_)); have n1_ := Aside0.mk (blk_kept (by (with_reducible repeat (first | refine blk_drewN ?_ _ | refine blk_drew ?_ | refine blk_alloc ?_ _)); exact BK879.out) hkp (fun hs_ => (fun e_ => (Kd.R_ne HO_884001.out BK879.out (by decide)) e_) hs_)); have n2_ := Aside0.mk (blk_kept (by (with_reducible repeat (first | refine blk_drewN ?_ _ | refine blk_drew ?_ | refine blk_alloc ?_ _)); exact BK883.out) hkp (fun hs_ => (fun e_ => (Kd.R_ne HO_884001.out BK883.out (by decide)) e_) hs_)); have n3_ := Aside0.mk (hb); clear HO_884001; clear BK879; clear BK883; clear HB; have HO_884001 := n0_; have BK879 := n1_; have BK883 := n2_; have HB := n3_; clear n0_ n1_ n2_ n3_; (try clear hb); (try clear hkp); (try clear hy0); have hcz64_0 : w63.cell? ⟨gb883, 0, none⟩ = some (.int .i64 (wrap64 (a0 * a1))) := (blk_cell BK883.out 0).trans rfl; have hcz64_1 : w63.cell? ⟨gb883, 1, none⟩ = some (.slice Ao62 x884001_2.length co62) := (blk_cell BK883.out 1).trans rfl; have hfz64_0 := blk_frozen BK883.out 0; have hfz64_1 := blk_frozen BK883.out 1) | (go_at_call 89; (with_reducible refine (slices_Compact_int64_int64.calls (fun k_ => some k_ = (.slice Ao62 x884001_2.length co62 : Value).ownBlock) (.slice Ao62 x884001_2.length co62) t894 t895 w _ ?side1 ?side2 A49.out).mono ?_); (case side1 => repeat (first | (with_reducible first | exact HB.out | apply below_alloc | apply pw_below_drewN | apply below_drew1 | refine below_set ?_ GE879.out | refine below_set ?_ GE883.out) | exact HB.out)); (case side2 => exact Kd.R_tight rfl HO_884001.out); rintro e w65 ⟨v896, rfl, ho0, hb, hkp⟩; have n0_ := Aside0.mk (blk_kept (by (with_reducible repeat (first | refine blk_drewN ?_ _ | refine blk_drew ?_ | refine blk_alloc ?_ _)); exact BK879.out) hkp (fun hs_ => (fun e_ => (Kd.R_ne HO_884001.out BK879.out (by decide)) e_) hs_)); have n1_ := Aside0.mk (blk_kept (by (with_reducible repeat (first | refine blk_drewN ?_ _ | refine blk_drew ?_ | refine blk_alloc ?_ _)); exact BK883.out) hkp (fun hs_ => (fun e_ => (Kd.R_ne HO_884001.out BK883.out (by decide)) e_) hs_)); have n2_ := Aside0.mk (Kd.R_mono (ok' := fun k_ => True) ho0 (fun k_ hk_ => trivial)); have n3_ := Aside0.mk (hb); clear BK879; clear BK883; clear HB; clear HO_884001; have BK879 := n0_; have BK883 := n1_; have HO897 := n2_; have HB := n3_; clear n0_ n1_ n2_ n3_; (try clear hb); (try clear hkp); (try clear ho0); obtain ⟨Ao66, co66, eo66⟩ := Kd.R_slice HO897.out; subst eo66; have hcz67_0 : w65.cell? ⟨gb883, 0, none⟩ = some (.int .i64 (wrap64 (a0 * a1))) := (blk_cell BK883.out 0).trans rfl; have hcz67_1 : w65.cell? ⟨gb883, 1, none⟩ = some (.slice Ao62 x884001_2.length co62) := (blk_cell BK883.out 1).trans rfl; have hfz67_0 := blk_frozen BK883.out 0; have hfz67_1 := blk_frozen BK883.out 1; have hcz68_0 : w65.cell? ⟨gb879, 0, none⟩ = some (.int .i64 0) := (blk_cell BK879.out 0).trans rfl; have hcz68_1 : w65.cell? ⟨gb879, 1, none⟩ = some (.slice none 0 0) := (blk_cell BK879.out 1).trans rfl; have hfz68_0 := blk_frozen BK879.out 0; have hfz68_1 := blk_frozen BK879.out 1)); try go_wp2_with (first | (go_at_call 88; (with_reducible refine (slices_Sort_int64_int64.calls (fun k_ => some k_ = (.slice Ao62 x884001_2.length co62 : Value).ownBlock) (.slice Ao62 x884001_2.length co62) x884001_2 t894 w _ ?side1 ?side2 A48.out).mono ?_); (case side1 => repeat (first | (with_reducible first | exact HB.out | apply below_alloc | apply pw_below_drewN | apply below_drew1 | refine below_set ?_ GE879.out | refine below_set ?_ GE883.out) | exact HB.out)); (case side2 => exact Kd.R_tight rfl HO_884001.out); rintro e w63 ⟨rfl, hy0, hb, hkp⟩; have n0_ := Aside0.mk (Kd.R_reok rfl hy0 (fun k_ e_ => HO_884001.out.1 k_ e_)); have n1_ := Aside0.mk (blk_kept (by (with_reducible repeat (first | refine blk_drewN ?_ _ | refine blk_drew ?_ | refine blk_alloc ?_ _)); exact BK879.out) hkp (fun hs_ => (fun e_ => (Kd.R_ne HO_884001.out BK879.out (by decide)) e_) hs_)); have n2_ := Aside0.mk (blk_kept (by (with_reducible repeat (first | refine blk_drewN ?_ _ | refine blk_drew ?_ | refine blk_alloc ?_ _)); exact BK883.out) hkp (fun hs_ => (fun e_ => (Kd.R_ne HO_884001.out BK883.out (by decide)) e_) hs_)); have n3_ := Aside0.mk (hb); clear HO_884001; clear BK879; clear BK883; clear HB; have HO_884001 := n0_; have BK879 := n1_; have BK883 := n2_; have HB := n3_; clear n0_ n1_ n2_ n3_; (try clear hb); (try clear hkp); (try clear hy0); have hcz64_0 : w63.cell? ⟨gb883, 0, none⟩ = some (.int .i64 (wrap64 (a0 * a1))) := (blk_cell BK883.out 0).trans rfl; have hcz64_1 : w63.cell? ⟨gb883, 1, none⟩ = some (.slice Ao62 x884001_2.length co62) := (blk_cell BK883.out 1).trans rfl; have hfz64_0 := blk_frozen BK883.out 0; have hfz64_1 := blk_frozen BK883.out 1) | (go_at_call 89; (with_reducible refine (slices_Compact_int64_int64.calls (fun k_ => some k_ = (.slice Ao62 x884001_2.length co62 : Value).ownBlock) (.slice Ao62 x884001_2.length co62) t894 t895 w _ ?side1 ?side2 A49.out).mono ?_); (case side1 => repeat (first | (with_reducible first | exact HB.out | apply below_alloc | apply pw_below_drewN | apply below_drew1 | refine below_set ?_ GE879.out | refine below_set ?_ GE883.out) | exact HB.out)); (case side2 => exact Kd.R_tight rfl HO_884001.out); rintro e w65 ⟨v896, rfl, ho0, hb, hkp⟩; have n0_ := Aside0.mk (blk_kept (by (with_reducible repeat (first | refine blk_drewN ?_ _ | refine blk_drew ?_ | refine blk_alloc ?_ _)); exact BK879.out) hkp (fun hs_ => (fun e_ => (Kd.R_ne HO_884001.out BK879.out (by decide)) e_) hs_)); have n1_ := Aside0.mk (blk_kept (by (with_reducible repeat (first | refine blk_drewN ?_ _ | refine blk_drew ?_ | refine blk_alloc ?_ _)); exact BK883.out) hkp (fun hs_ => (fun e_ => (Kd.R_ne HO_884001.out BK883.out (by decide)) e_) hs_)); have n2_ := Aside0.mk (Kd.R_mono (ok' := fun k_ => True) ho0 (fun k_ hk_ => trivial)); have n3_ := Aside0.mk (hb); clear BK879; clear BK883; clear HB; clear HO_884001; have BK879 := n0_; have BK883 := n1_; have HO897 := n2_; have HB := n3_; clear n0_ n1_ n2_ n3_; (try clear hb); (try clear hkp); (try clear ho0); obtain ⟨Ao66, co66, eo66⟩ := Kd.R_slice HO897.out; subst eo66; have hcz67_0 : w65.cell? ⟨gb883, 0, none⟩ = some (.int .i64 (wrap64 (a0 * a1))) := (blk_cell BK883.out 0).trans rfl; have hcz67_1 : w65.cell? ⟨gb883, 1, none⟩ = some (.slice Ao62 x884001_2.length co62) := (blk_cell BK883.out 1).trans rfl; have hfz67_0 := blk_frozen BK883.out 0; have hfz67_1 := blk_frozen BK883.out 1; have hcz68_0 : w65.cell? ⟨gb879, 0, none⟩ = some (.int .i64 0) := (blk_cell BK879.out 0).trans rfl; have hcz68_1 : w65.cell? ⟨gb879, 1, none⟩ = some (.slice none 0 0) := (blk_cell BK879.out 1).trans rfl; have hfz68_0 := blk_frozen BK879.out 0; have hfz68_1 := blk_frozen BK879.out 1)))
                refine bodyPost_ret (results_ct rfl _ _ gb879 27 #[.int .i64 (wrap64 (a0 * a1)), .slice Ao66 t895.length co66] (0, 0) _ rfl (by (with_reducible repeat (first | refine blk_drewN ?_ _ | refine blk_drew ?_ | refine blk_alloc ?_ _)); refine blk_put (cs := #[.int .i64 (wrap64 (a0 * a1)), .slice none 0 0]) ?_ 1 _ rfl; (with_reducible repeat (first | refine blk_drewN ?_ _ | refine blk_drew ?_ | refine blk_alloc ?_ _)); refine blk_put (cs := #[.int .i64 0, .slice none 0 0]) ?_ 0 _ rfl; (with_reducible repeat (first | refine blk_drewN ?_ _ | refine blk_drew ?_ | refine blk_alloc ?_ _)); refine blk_far ?_ NB879_883.out _; (with_reducible repeat (first | refine blk_drewN ?_ _ | refine blk_drew ?_ | refine blk_alloc ?_ _)); exact BK879.out) Try.underlying27 rfl (by kernel_rfl)) rfl ?_
                exact ⟨_, by first | rfl | (simp [errW_none, errW_some] <;> rfl) | (simp [*, errW_none, errW_some] <;> rfl), by (with_reducible repeat (first | apply Kd.R_alloc | apply Kd.R_drewN | apply Kd.R_drew)); exact Kd.R_mono (Kd.R_far (p := ⟨gb879, 1, none⟩) (Kd.R_far (p := ⟨gb879, 0, none⟩) (Kd.R_far (p := ⟨gb883, 1, none⟩) (Kd.R_types (Kd.R_types HO897.out BK883.out (by decide)) BK879.out (by decide)) (fun _ hk => hk.1.2) (.slice Ao66 t895.length co66)) (fun _ hk => hk.2) (.int .i64 (wrap64 (a0 * a1)))) (fun _ hk => hk.2) (.slice Ao66 t895.length co66)) (fun _ hk => trivial), by repeat (first | (with_reducible first | exact HB.out | apply below_alloc | apply pw_below_drewN | apply below_drew1 | refine below_set ?_ GE879.out | refine below_set ?_ GE883.out) | exact HB.out)⟩

/-! ### laws_FnExactGridBoard: function 14 -/
mutual
def laws_FnExactGridBoard.j0 : Nat → Int → Int → Int → Int → Bool → Int → List Int → Int → List Int → Option (Bool)
  | 0, _, _, _, _, _, _, _, _, _ => none
  | k + 1, x0, x1, x2, x8, x37, x906000, x906001, x912000, x912001 => if x37 = true then (none) else ((laws_markBoard.f k x912000 x912001 1).bind fun bt913 => ((laws_heldBoard.f k x912000 bt913.2 1).bind fun t915 => (if t915 < 0 then (none) else (if t915 = bt913.1 then ((impl_GridBoard.f k x0 x1 x2).bind fun bt916 => ((laws_eqBoard.f k bt916.1 bt916.2.1 x906000 x906001).bind fun t922 => (if t922 = true then (laws_FnExactGridBoard.j1 k bt913.1 (bt916.2.2 != x8) x912000 bt913.2) else (laws_FnExactGridBoard.j1 k bt913.1 true x912000 bt913.2)))) else (none)))))
def laws_FnExactGridBoard.j1 : Nat → Int → Bool → Int → List Int → Option (Bool)
  | 0, _, _, _, _ => none
  | k + 1, x11, x64, x912000, x912001 => if x64 = true then (none) else ((laws_heldBoard.f k x912000 x912001 1).bind fun t923 => (if t923 < 0 then (none) else (if t923 = x11 then (some true) else (none))))
end
def laws_FnExactGridBoard.f (k : Nat) (a0 : Int) (a1 : Int) (a2 : Int) : Option (Bool) := (spec_GridBoard.f k a0 a1 a2).bind fun bt900 => ((impl_GridBoard.f k a0 a1 a2).bind fun bt906 => ((laws_eqBoard.f k bt906.1 bt906.2.1 bt900.1 bt900.2.1).bind fun t912 => (if t912 = true then (laws_FnExactGridBoard.j0 k a0 a1 a2 bt900.2.2 (bt906.2.2 != bt900.2.2) bt900.1 bt900.2.1 bt906.1 bt906.2.1) else (laws_FnExactGridBoard.j0 k a0 a1 a2 bt900.2.2 true bt900.1 bt900.2.1 bt906.1 bt906.2.1))))
theorem laws_FnExactGridBoard.mono_l : ∀ k, (∀ y0 y1 y2 y3 y4 y5 y6 y7 y8, LeO (laws_FnExactGridBoard.j0 k y0 y1 y2 y3 y4 y5 y6 y7 y8) (laws_FnExactGridBoard.j0 (k + 1) y0 y1 y2 y3 y4 y5 y6 y7 y8)) ∧ (∀ y0 y1 y2 y3, LeO (laws_FnExactGridBoard.j1 k y0 y1 y2 y3) (laws_FnExactGridBoard.j1 (k + 1) y0 y1 y2 y3))
  | 0 => ⟨fun _ _ _ _ _ _ _ _ _ r h => by simp [laws_FnExactGridBoard.j0] at h, fun _ _ _ _ r h => by simp [laws_FnExactGridBoard.j1] at h⟩
  | k + 1 => by
    obtain ⟨ih0, ih1⟩ := laws_FnExactGridBoard.mono_l k
    refine ⟨?_, ?_⟩
    · intro y0 y1 y2 y3 y4 y5 y6 y7 y8
      unfold laws_FnExactGridBoard.j0
      repeat' first
      | (with_reducible exact ih0 _ _ _ _ _ _ _ _ _)
      | (with_reducible exact ih1 _ _ _ _)
      | (with_reducible exact impl_GridBoard.mono _ _ _ _)
      | (with_reducible exact laws_eqBoard.mono _ _ _ _ _)
      | (with_reducible exact laws_heldBoard.mono _ _ _ _)
      | (with_reducible exact laws_markBoard.mono _ _ _ _)
      | (with_reducible exact spec_GridBoard.mono _ _ _ _)
      | (with_reducible exact LeO.refl _)
      | (with_reducible exact LeO.none _)
      | (with_reducible refine LeO.ite ?_ ?_)
      | (with_reducible refine LeO.bind ?_ (fun _ => ?_))
      | exact ih0 _ _ _ _ _ _ _ _ _
      | exact ih1 _ _ _ _
      | exact impl_GridBoard.mono _ _ _ _
      | exact laws_eqBoard.mono _ _ _ _ _
      | exact laws_heldBoard.mono _ _ _ _
      | exact laws_markBoard.mono _ _ _ _
      | exact spec_GridBoard.mono _ _ _ _
      | exact LeO.none _
      | refine LeO.ite ?_ ?_
      | refine LeO.bind ?_ (fun _ => ?_)
    · intro y0 y1 y2 y3
      unfold laws_FnExactGridBoard.j1
      repeat' first
      | (with_reducible exact ih0 _ _ _ _ _ _ _ _ _)
      | (with_reducible exact ih1 _ _ _ _)
      | (with_reducible exact impl_GridBoard.mono _ _ _ _)
      | (with_reducible exact laws_eqBoard.mono _ _ _ _ _)
      | (with_reducible exact laws_heldBoard.mono _ _ _ _)
      | (with_reducible exact laws_markBoard.mono _ _ _ _)
      | (with_reducible exact spec_GridBoard.mono _ _ _ _)
      | (with_reducible exact LeO.refl _)
      | (with_reducible exact LeO.none _)
      | (with_reducible refine LeO.ite ?_ ?_)
      | (with_reducible refine LeO.bind ?_ (fun _ => ?_))
      | exact ih0 _ _ _ _ _ _ _ _ _
      | exact ih1 _ _ _ _
      | exact impl_GridBoard.mono _ _ _ _
      | exact laws_eqBoard.mono _ _ _ _ _
      | exact laws_heldBoard.mono _ _ _ _
      | exact laws_markBoard.mono _ _ _ _
      | exact spec_GridBoard.mono _ _ _ _
      | exact LeO.none _
      | refine LeO.ite ?_ ?_
      | refine LeO.bind ?_ (fun _ => ?_)
theorem laws_FnExactGridBoard.mono : ∀ a0 a1 a2 k, LeO (laws_FnExactGridBoard.f k a0 a1 a2) (laws_FnExactGridBoard.f (k + 1) a0 a1 a2) := by
  intro a0 a1 a2 k
  obtain ⟨ih0, ih1⟩ := laws_FnExactGridBoard.mono_l k
  unfold laws_FnExactGridBoard.f
  repeat' first
      | (with_reducible exact ih0 _ _ _ _ _ _ _ _ _)
      | (with_reducible exact ih1 _ _ _ _)
      | (with_reducible exact impl_GridBoard.mono _ _ _ _)
      | (with_reducible exact laws_eqBoard.mono _ _ _ _ _)
      | (with_reducible exact laws_heldBoard.mono _ _ _ _)
      | (with_reducible exact laws_markBoard.mono _ _ _ _)
      | (with_reducible exact spec_GridBoard.mono _ _ _ _)
      | (with_reducible exact LeO.refl _)
      | (with_reducible exact LeO.none _)
      | (with_reducible refine LeO.ite ?_ ?_)
      | (with_reducible refine LeO.bind ?_ (fun _ => ?_))
      | exact ih0 _ _ _ _ _ _ _ _ _
      | exact ih1 _ _ _ _
      | exact impl_GridBoard.mono _ _ _ _
      | exact laws_eqBoard.mono _ _ _ _ _
      | exact laws_heldBoard.mono _ _ _ _
      | exact laws_markBoard.mono _ _ _ _
      | exact spec_GridBoard.mono _ _ _ _
      | exact LeO.none _
      | refine LeO.ite ?_ ?_
      | refine LeO.bind ?_ (fun _ => ?_)
set_option maxHeartbeats 8000000 in
set_option maxRecDepth 100000 in
theorem laws_FnExactGridBoard.calls (k : Nat) (a0 : Int) (a1 : Int) (a2 : Int) (r : Bool) (w : World) (h : laws_FnExactGridBoard.f k a0 a1 a2 = some r) :
    Calls Try.prog 14 #[.int .i64 a0, .int .i64 a1, .int .i64 a2] w fun e w' => e = .returned (.bool r) ∧ Below w.heap.size w w' := by
  have hu27 := Try.underlying27
  have HB := Aside0.mk (Below.refl w.heap.size w)
  have H : ((spec_GridBoard.f k a0 a1 a2).bind fun bt900 => ((impl_GridBoard.f k a0 a1 a2).bind fun bt906 => ((laws_eqBoard.f k bt906.1 bt906.2.1 bt900.1 bt900.2.1).bind fun t912 => (if t912 = true then (laws_FnExactGridBoard.j0 k a0 a1 a2 bt900.2.2 (bt906.2.2 != bt900.2.2) bt900.1 bt900.2.1 bt906.1 bt906.2.1) else (laws_FnExactGridBoard.j0 k a0 a1 a2 bt900.2.2 true bt900.1 bt900.2.1 bt906.1 bt906.2.1))))) = some r := h
  clear h
  replace H := Option.bind_eq_some_iff.mp H
  obtain ⟨⟨t900, t901, t904⟩, A40, H⟩ := H
  replace H : ((impl_GridBoard.f k a0 a1 a2).bind fun bt906 => ((laws_eqBoard.f k bt906.1 bt906.2.1 t900 t901).bind fun t912 => (if t912 = true then (laws_FnExactGridBoard.j0 k a0 a1 a2 t904 (bt906.2.2 != t904) t900 t901 bt906.1 bt906.2.1) else (laws_FnExactGridBoard.j0 k a0 a1 a2 t904 true t900 t901 bt906.1 bt906.2.1)))) = some r := H
  have A4 := Aside0.mk A40
  clear A40
  replace H := Option.bind_eq_some_iff.mp H
  obtain ⟨⟨t906, t907, t910⟩, A50, H⟩ := H
  replace H : ((laws_eqBoard.f k t906 t907 t900 t901).bind fun t912 => (if t912 = true then (laws_FnExactGridBoard.j0 k a0 a1 a2 t904 (t910 != t904) t900 t901 t906 t907) else (laws_FnExactGridBoard.j0 k a0 a1 a2 t904 true t900 t901 t906 t907))) = some r := H
  have A5 := Aside0.mk A50
  clear A50
  have HC6 := Aside0.mk H
  clear H
  go_enter Try.func14, Try.ntmps14
  go_upto_region 3 with (first | ((with_reducible refine gate_callee (f := 47) rfl ?_); refine goesL_ (some 19) rfl rfl Try.func47 (by kernel_rfl) rfl #[.int .i64 a0, .int .i64 a1, .int .i64 a2] rfl (by (try simp only [List.map_toArray, List.map_cons, List.map_nil]); first | done | rfl | (simp only [List.length_drop, List.length_take]; rfl)) ?_; (with_reducible refine (spec_GridBoard.calls k a0 a1 a2 t900 t901 t904 _ A4.out).mono ?_); rintro e w7 ⟨v902, rfl, ho0, hb⟩; refine ⟨_, rfl, ?_⟩; have n0_ := Aside0.mk (Kd.R_lower ho0 (below_size (by repeat (first | (with_reducible first | exact HB.out | apply below_alloc | apply pw_below_drewN | apply below_drew1) | exact HB.out)))); have n1_ := Aside0.mk (below_step (by repeat (first | (with_reducible first | exact HB.out | apply below_alloc | apply pw_below_drewN | apply below_drew1) | exact HB.out)) hb); clear HB; have HO903 := n0_; have HB := n1_; clear n0_ n1_; (try clear hb); (try clear hb2); (try clear hk); (try clear hi); (try clear ho0)) | ((with_reducible refine gate_dst (N := 7) rfl ?_); refine box_event ?hg (N := 7) ?hd (cs := #[.int .i64 0, .slice none 0 0]) (t := 27) ?hr ?_; (case hd => rfl); (case hg => rfl); (case hr => first | (go_simp; done) | (go_simp; rfl)); intro gb905 hg w8 hbox hb; have n0_ := Aside0.mk (Kd.R_below (by (with_reducible repeat (first | apply Kd.R_alloc | apply Kd.R_drewN | apply Kd.R_drew)); exact HO903.out) hb); have n1_ := Aside0.mk (below_step (by repeat (first | (with_reducible first | exact HB.out | apply below_alloc | apply pw_below_drewN | apply below_drew1) | exact HB.out)) hb); have n2_ := Aside0.mk (hbox); have n3_ := Aside0.mk ((by rw [hg]; exact (below_size (by repeat (first | (with_reducible first | exact HB.out | apply below_alloc | apply pw_below_drewN | apply below_drew1) | exact HB.out))) : w.heap.size ≤ gb905)); have n4_ := Aside0.mk ((by rw [hg]; exact (below_size (by repeat (first | (with_reducible first | exact HB.out | apply below_alloc | apply pw_below_drewN | apply below_drew1) | exact HB.out))) : w.heap.size ≤ gb905)); clear HO903; clear HB; have HO903 := n0_; have HB := n1_; have BK905 := n2_; have GW905 := n3_; have GE905 := n4_; clear n0_ n1_ n2_ n3_ n4_; clear hb hbox hg; have hcz9_0 : w8.cell? ⟨gb905, 0, none⟩ = some (.int .i64 0) := (blk_cell BK905.out 0).trans rfl; have hcz9_1 : w8.cell? ⟨gb905, 1, none⟩ = some (.slice none 0 0) := (blk_cell BK905.out 1).trans rfl; have hfz9_0 := blk_frozen BK905.out 0; have hfz9_1 := blk_frozen BK905.out 1; obtain ⟨Ao10, co10, eo10⟩ := Kd.R_slice HO903.out; subst eo10) | ((with_reducible refine gate_callee (f := 48) rfl ?_); refine goesL_ (some 26) rfl rfl Try.func48 (by kernel_rfl) rfl #[.int .i64 a0, .int .i64 a1, .int .i64 a2] rfl (by (try simp only [List.map_toArray, List.map_cons, List.map_nil]); first | done | rfl | (simp only [List.length_drop, List.length_take]; rfl)) ?_; (with_reducible refine (impl_GridBoard.calls k a0 a1 a2 t906 t907 t910 _ A5.out).mono ?_); rintro e w11 ⟨v908, rfl, ho0, hb⟩; refine ⟨_, rfl, ?_⟩; have n0_ := Aside0.mk (Kd.R_elder' (by (with_reducible repeat (first | apply Kd.R_alloc | apply Kd.R_drewN | apply Kd.R_drew)); exact (Kd.R_mono (Kd.R_far (p := ⟨gb905, 1, none⟩) (Kd.R_far (p := ⟨gb905, 0, none⟩) (Kd.R_types HO903.out BK905.out (by decide)) (fun _ hk => hk.2) (.int .i64 t900)) (fun _ hk => hk.2) (.slice Ao10 t901.length co10)) (fun _ h_ => h_.1))) (Kd.R_base ho0) hb); have n1_ := Aside0.mk (Kd.R_lower (Kd.R_new' ho0 (Kd.R_lt (by (with_reducible repeat (first | apply Kd.R_alloc | apply Kd.R_drewN | apply Kd.R_drew)); exact (Kd.R_mono (Kd.R_far (p := ⟨gb905, 1, none⟩) (Kd.R_far (p := ⟨gb905, 0, none⟩) (Kd.R_types HO903.out BK905.out (by decide)) (fun _ hk => hk.2) (.int .i64 t900)) (fun _ hk => hk.2) (.slice Ao10 t901.length co10)) (fun _ h_ => h_.1))))) (below_size (by repeat (first | (with_reducible first | exact HB.out | apply below_alloc | apply pw_below_drewN | apply below_drew1 | refine below_set ?_ GE905.out) | exact HB.out)))); have n2_ := Aside0.mk (blk_below (g := gb905) (o := .cells #[.int .i64 t900, .slice Ao10 t901.length co10] 27 (0, 0)) (by (with_reducible repeat (first | refine blk_drewN ?_ _ | refine blk_drew ?_ | refine blk_alloc ?_ _)); refine blk_put (cs := #[.int .i64 t900, .slice none 0 0]) ?_ 1 _ rfl; (with_reducible repeat (first | refine blk_drewN ?_ _ | refine blk_drew ?_ | refine blk_alloc ?_ _)); refine blk_put (cs := #[.int .i64 0, .slice none 0 0]) ?_ 0 _ rfl; (with_reducible repeat (first | refine blk_drewN ?_ _ | refine blk_drew ?_ | refine blk_alloc ?_ _)); exact BK905.out) hb); have n3_ := Aside0.mk (below_step (by repeat (first | (with_reducible first | exact HB.out | apply below_alloc | apply pw_below_drewN | apply below_drew1 | refine below_set ?_ GE905.out) | exact HB.out)) hb); clear HO903; clear BK905; clear HB; have HO903 := n0_; have HO909 := n1_; have BK905 := n2_; have HB := n3_; clear n0_ n1_ n2_ n3_; (try clear hb); (try clear hb2); (try clear hk); (try clear hi); (try clear ho0)) | ((with_reducible refine gate_dst (N := 9) rfl ?_); refine box_event ?hg (N := 9) ?hd (cs := #[.int .i64 0, .slice none 0 0]) (t := 27) ?hr ?_; (case hd => rfl); (case hg => rfl); (case hr => first | (go_simp; done) | (go_simp; rfl)); intro gb911 hg w12 hbox hb; have n0_ := Aside0.mk (Kd.R_below (by (with_reducible repeat (first | apply Kd.R_alloc | apply Kd.R_drewN | apply Kd.R_drew)); exact HO903.out) hb); have n1_ := Aside0.mk (Kd.R_below (by (with_reducible repeat (first | apply Kd.R_alloc | apply Kd.R_drewN | apply Kd.R_drew)); exact HO909.out) hb); have n2_ := Aside0.mk (blk_below (g := gb905) (o := .cells #[.int .i64 t900, .slice Ao10 t901.length co10] 27 (0, 0)) (by (with_reducible repeat (first | refine blk_drewN ?_ _ | refine blk_drew ?_ | refine blk_alloc ?_ _)); exact BK905.out) hb); have n3_ := Aside0.mk (below_step (by repeat (first | (with_reducible first | exact HB.out | apply below_alloc | apply pw_below_drewN | apply below_drew1 | refine below_set ?_ GE905.out) | exact HB.out)) hb); have n4_ := Aside0.mk (hbox); have n5_ := Aside0.mk ((by rw [hg]; exact (below_size (by repeat (first | (with_reducible first | exact HB.out | apply below_alloc | apply pw_below_drewN | apply below_drew1 | refine below_set ?_ GE905.out) | exact HB.out))) : w.heap.size ≤ gb911)); have n6_ := Aside0.mk ((by rw [hg]; exact (below_size (by repeat (first | (with_reducible first | exact HB.out | apply below_alloc | apply pw_below_drewN | apply below_drew1 | refine below_set ?_ GE905.out) | exact HB.out))) : w.heap.size ≤ gb911)); have n7_ := Aside0.mk ((by rw [hg]; exact Nat.ne_of_lt (blk_lt (g := gb905) (o := .cells #[.int .i64 t900, .slice Ao10 t901.length co10] 27 (0, 0)) (by (with_reducible repeat (first | refine blk_drewN ?_ _ | refine blk_drew ?_ | refine blk_alloc ?_ _)); exact BK905.out)) : gb905 ≠ gb911)); have n8_ := Aside0.mk ((by rw [hg]; exact Nat.ne_of_gt (blk_lt (g := gb905) (o := .cells #[.int .i64 t900, .slice Ao10 t901.length co10] 27 (0, 0)) (by (with_reducible repeat (first | refine blk_drewN ?_ _ | refine blk_drew ?_ | refine blk_alloc ?_ _)); exact BK905.out)) : gb911 ≠ gb905)); clear HO903; clear HO909; clear BK905; clear HB; have HO903 := n0_; have HO909 := n1_; have BK905 := n2_; have HB := n3_; have BK911 := n4_; have GW911 := n5_; have GE911 := n6_; have NB905_911 := n7_; have NB911_905 := n8_; clear n0_ n1_ n2_ n3_ n4_ n5_ n6_ n7_ n8_; clear hb hbox hg; have hnb13 := NB911_905.out; have hnc13 := NB905_911.out; have hcz14_0 : w12.cell? ⟨gb911, 0, none⟩ = some (.int .i64 0) := (blk_cell BK911.out 0).trans rfl; have hcz14_1 : w12.cell? ⟨gb911, 1, none⟩ = some (.slice none 0 0) := (blk_cell BK911.out 1).trans rfl; have hfz14_0 := blk_frozen BK911.out 0; have hfz14_1 := blk_frozen BK911.out 1; obtain ⟨Ao15, co15, eo15⟩ := Kd.R_slice HO909.out; subst eo15))
  (try simp only [Act.put, List.setIfInBounds_toArray, List.set_cons_zero, List.set_cons_succ])
  go_cut [37] (fun v37 wc => ∃ (kq : Nat) (x37_5 : Bool), v37 = .bool x37_5 ∧ Aside0 (laws_FnExactGridBoard.j0 kq a0 a1 a2 t904 x37_5 t900 t901 t906 t907 = some r) ∧ Aside0 (kq ≤ k) ∧ Aside0 (Kd.R (Kd.int .i64) 2 wc w.heap.size (fun k_ => some k_ ≠ ((.slice Ao15 t907.length co15) : Value).ownBlock) (.slice Ao10 t901.length co10) t901) ∧ Aside0 (Kd.R (Kd.int .i64) 2 wc w.heap.size (fun k_ => some k_ ≠ ((.slice Ao10 t901.length co10) : Value).ownBlock) (.slice Ao15 t907.length co15) t907) ∧ Aside0 (wc.heap[gb905]? = some (.cells #[.int .i64 t900, (.slice Ao10 t901.length co10)] 27 (0, 0))) ∧ Aside0 (wc.heap[gb911]? = some (.cells #[.int .i64 t906, (.slice Ao15 t907.length co15)] 27 (0, 0))) ∧ Aside0 (Below w.heap.size w wc))
  case first =>
    have H := HC6.out
    clear HC6
    replace H := Option.bind_eq_some_iff.mp H
    obtain ⟨t912, A160, H⟩ := H
    replace H : (if t912 = true then (laws_FnExactGridBoard.j0 k a0 a1 a2 t904 (t910 != t904) t900 t901 t906 t907) else (laws_FnExactGridBoard.j0 k a0 a1 a2 t904 true t900 t901 t906 t907)) = some r := H
    have A16 := Aside0.mk A160
    clear A160
    by_cases c17 : t912 = true
    · subst c17
      have H1 : (laws_FnExactGridBoard.j0 k a0 a1 a2 t904 (t910 != t904) t900 t901 t906 t907) = some r := by rw [if_pos rfl] at H; exact H
      clear H
      have H := H1
      clear H1
      have H' := Aside0.mk H
      clear H
      have hnb18 := NB911_905.out
      have hnc18 := NB905_911.out
      have hcz19_0 : w12.cell? ⟨gb911, 0, none⟩ = some (.int .i64 0) := (blk_cell BK911.out 0).trans rfl
      have hcz19_1 : w12.cell? ⟨gb911, 1, none⟩ = some (.slice none 0 0) := (blk_cell BK911.out 1).trans rfl
      have hfz19_0 := blk_frozen BK911.out 0
      have hfz19_1 := blk_frozen BK911.out 1
      have hcz20_0 : w12.cell? ⟨gb905, 0, none⟩ = some (.int .i64 t900) := (blk_cell BK905.out 0).trans rfl
      have hcz20_1 : w12.cell? ⟨gb905, 1, none⟩ = some (.slice Ao10 t901.length co10) := (blk_cell BK905.out 1).trans rfl
      have hfz20_0 := blk_frozen BK905.out 0
      have hfz20_1 := blk_frozen BK905.out 1
      go_wp2_with (first | ((with_reducible refine gate_callee (f := 19) rfl ?_); refine goesL_ (some 31) rfl rfl Try.func19 (by kernel_rfl) rfl #[.agg #[.int .i64 t906, .slice Ao15 t907.length co15], .agg #[.int .i64 t900, .slice Ao10 t901.length co10]] rfl (by (try simp only [List.map_toArray, List.map_cons, List.map_nil]); first | done | rfl | (simp only [List.length_drop, List.length_take]; rfl)) ?_; (with_reducible refine (laws_eqBoard.calls k t906 _ _ t907 t900 _ _ t901 true _ ?side1 ?side2 ?side3 ?side4 A16.out).mono ?_); (case side1 => refine (Kd.R_reads' (e := 2) (base := w.heap.size) (ok := fun k_ => (True ∧ some k_ ≠ (.slice Ao10 t901.length co10 : Value).ownBlock)) (n := t907.length) (c := co15) ?_).2.2; exact (by (with_reducible repeat (first | apply Kd.R_alloc | apply Kd.R_drewN | apply Kd.R_drew)); exact (Kd.R_mono (Kd.R_far (p := ⟨gb911, 1, none⟩) (Kd.R_far (p := ⟨gb911, 0, none⟩) (Kd.R_types HO909.out BK911.out (by decide)) (fun _ hk => hk.2) (.int .i64 t906)) (fun _ hk => hk.2) (.slice Ao15 t907.length co15)) (fun _ h_ => h_.1)))); (case side2 => exact (Kd.R_reads' HO909.out).2.1); (case side3 => refine (Kd.R_reads' (e := 2) (base := w.heap.size) (ok := fun k_ => (True ∧ some k_ ≠ (.slice Ao15 t907.length co15 : Value).ownBlock)) (n := t901.length) (c := co10) ?_).2.2; exact (by (with_reducible repeat (first | apply Kd.R_alloc | apply Kd.R_drewN | apply Kd.R_drew)); exact (Kd.R_mono (Kd.R_far (p := ⟨gb911, 1, none⟩) (Kd.R_far (p := ⟨gb911, 0, none⟩) (Kd.R_types HO903.out BK911.out (by decide)) (fun _ hk => hk.2) (.int .i64 t906)) (fun _ hk => hk.2) (.slice Ao15 t907.length co15)) (fun _ h_ => h_.1)))); (case side4 => exact (Kd.R_reads' HO903.out).2.1); rintro e w21 ⟨rfl, hb⟩; refine ⟨_, rfl, ?_⟩; have n0_ := Aside0.mk (Kd.R_below (by (with_reducible repeat (first | apply Kd.R_alloc | apply Kd.R_drewN | apply Kd.R_drew)); exact (Kd.R_mono (Kd.R_far (p := ⟨gb911, 1, none⟩) (Kd.R_far (p := ⟨gb911, 0, none⟩) (Kd.R_types HO903.out BK911.out (by decide)) (fun _ hk => hk.2) (.int .i64 t906)) (fun _ hk => hk.2) (.slice Ao15 t907.length co15)) (fun _ h_ => h_.1))) hb); have n1_ := Aside0.mk (Kd.R_below (by (with_reducible repeat (first | apply Kd.R_alloc | apply Kd.R_drewN | apply Kd.R_drew)); exact (Kd.R_mono (Kd.R_far (p := ⟨gb911, 1, none⟩) (Kd.R_far (p := ⟨gb911, 0, none⟩) (Kd.R_types HO909.out BK911.out (by decide)) (fun _ hk => hk.2) (.int .i64 t906)) (fun _ hk => hk.2) (.slice Ao15 t907.length co15)) (fun _ h_ => h_.1))) hb); have n2_ := Aside0.mk (blk_below (g := gb905) (o := .cells #[.int .i64 t900, .slice Ao10 t901.length co10] 27 (0, 0)) (by (with_reducible repeat (first | refine blk_drewN ?_ _ | refine blk_drew ?_ | refine blk_alloc ?_ _)); refine blk_far ?_ NB905_911.out _; (with_reducible repeat (first | refine blk_drewN ?_ _ | refine blk_drew ?_ | refine blk_alloc ?_ _)); refine blk_far ?_ NB905_911.out _; (with_reducible repeat (first | refine blk_drewN ?_ _ | refine blk_drew ?_ | refine blk_alloc ?_ _)); exact BK905.out) hb); have n3_ := Aside0.mk (blk_below (g := gb911) (o := .cells #[.int .i64 t906, .slice Ao15 t907.length co15] 27 (0, 0)) (by (with_reducible repeat (first | refine blk_drewN ?_ _ | refine blk_drew ?_ | refine blk_alloc ?_ _)); refine blk_put (cs := #[.int .i64 t906, .slice none 0 0]) ?_ 1 _ rfl; (with_reducible repeat (first | refine blk_drewN ?_ _ | refine blk_drew ?_ | refine blk_alloc ?_ _)); refine blk_put (cs := #[.int .i64 0, .slice none 0 0]) ?_ 0 _ rfl; (with_reducible repeat (first | refine blk_drewN ?_ _ | refine blk_drew ?_ | refine blk_alloc ?_ _)); exact BK911.out) hb); have n4_ := Aside0.mk (below_step (by repeat (first | (with_reducible first | exact HB.out | apply below_alloc | apply pw_below_drewN | apply below_drew1 | refine below_set ?_ GE905.out | refine below_set ?_ GE911.out) | exact HB.out)) hb); clear HO903; clear HO909; clear BK905; clear BK911; clear HB; have HO903 := n0_; have HO909 := n1_; have BK905 := n2_; have BK911 := n3_; have HB := n4_; clear n0_ n1_ n2_ n3_ n4_; (try clear hb); (try clear hb2); (try clear hk); (try clear hi)))
      go_meet
      case rel => exact ⟨_, ((t910 != t904)), (by first | rfl | (simp; done) | (simp [*]; done)), H', ⟨by first | omega | exact Nat.le_refl _⟩, ⟨by (with_reducible repeat (first | apply Kd.R_alloc | apply Kd.R_drewN | apply Kd.R_drew)); exact Kd.R_mono HO903.out (fun _ hk => hk.2)⟩, ⟨by (with_reducible repeat (first | apply Kd.R_alloc | apply Kd.R_drewN | apply Kd.R_drew)); exact Kd.R_mono HO909.out (fun _ hk => hk.2)⟩, ⟨by (with_reducible repeat (first | refine blk_drewN ?_ _ | refine blk_drew ?_ | refine blk_alloc ?_ _)); exact BK905.out⟩, ⟨by (with_reducible repeat (first | refine blk_drewN ?_ _ | refine blk_drew ?_ | refine blk_alloc ?_ _)); exact BK911.out⟩, ⟨by repeat (first | (with_reducible first | exact HB.out | apply below_alloc | apply pw_below_drewN | apply below_drew1 | refine below_set ?_ GE905.out | refine below_set ?_ GE911.out) | exact HB.out)⟩⟩
    · replace c17 := Bool.eq_false_iff.mpr c17
      subst c17
      have H1 : (laws_FnExactGridBoard.j0 k a0 a1 a2 t904 true t900 t901 t906 t907) = some r := by rw [if_neg (show ¬ (false = true) by decide)] at H; exact H
      clear H
      have H := H1
      clear H1
      have H' := Aside0.mk H
      clear H
      have hnb22 := NB911_905.out
      have hnc22 := NB905_911.out
      have hcz23_0 : w12.cell? ⟨gb911, 0, none⟩ = some (.int .i64 0) := (blk_cell BK911.out 0).trans rfl
      have hcz23_1 : w12.cell? ⟨gb911, 1, none⟩ = some (.slice none 0 0) := (blk_cell BK911.out 1).trans rfl
      have hfz23_0 := blk_frozen BK911.out 0
      have hfz23_1 := blk_frozen BK911.out 1
      have hcz24_0 : w12.cell? ⟨gb905, 0, none⟩ = some (.int .i64 t900) := (blk_cell BK905.out 0).trans rfl
      have hcz24_1 : w12.cell? ⟨gb905, 1, none⟩ = some (.slice Ao10 t901.length co10) := (blk_cell BK905.out 1).trans rfl
      have hfz24_0 := blk_frozen BK905.out 0
      have hfz24_1 := blk_frozen BK905.out 1
      go_wp2_with (first | ((with_reducible refine gate_callee (f := 19) rfl ?_); refine goesL_ (some 31) rfl rfl Try.func19 (by kernel_rfl) rfl #[.agg #[.int .i64 t906, .slice Ao15 t907.length co15], .agg #[.int .i64 t900, .slice Ao10 t901.length co10]] rfl (by (try simp only [List.map_toArray, List.map_cons, List.map_nil]); first | done | rfl | (simp only [List.length_drop, List.length_take]; rfl)) ?_; (with_reducible refine (laws_eqBoard.calls k t906 _ _ t907 t900 _ _ t901 false _ ?side1 ?side2 ?side3 ?side4 A16.out).mono ?_); (case side1 => refine (Kd.R_reads' (e := 2) (base := w.heap.size) (ok := fun k_ => (True ∧ some k_ ≠ (.slice Ao10 t901.length co10 : Value).ownBlock)) (n := t907.length) (c := co15) ?_).2.2; exact (by (with_reducible repeat (first | apply Kd.R_alloc | apply Kd.R_drewN | apply Kd.R_drew)); exact (Kd.R_mono (Kd.R_far (p := ⟨gb911, 1, none⟩) (Kd.R_far (p := ⟨gb911, 0, none⟩) (Kd.R_types HO909.out BK911.out (by decide)) (fun _ hk => hk.2) (.int .i64 t906)) (fun _ hk => hk.2) (.slice Ao15 t907.length co15)) (fun _ h_ => h_.1)))); (case side2 => exact (Kd.R_reads' HO909.out).2.1); (case side3 => refine (Kd.R_reads' (e := 2) (base := w.heap.size) (ok := fun k_ => (True ∧ some k_ ≠ (.slice Ao15 t907.length co15 : Value).ownBlock)) (n := t901.length) (c := co10) ?_).2.2; exact (by (with_reducible repeat (first | apply Kd.R_alloc | apply Kd.R_drewN | apply Kd.R_drew)); exact (Kd.R_mono (Kd.R_far (p := ⟨gb911, 1, none⟩) (Kd.R_far (p := ⟨gb911, 0, none⟩) (Kd.R_types HO903.out BK911.out (by decide)) (fun _ hk => hk.2) (.int .i64 t906)) (fun _ hk => hk.2) (.slice Ao15 t907.length co15)) (fun _ h_ => h_.1)))); (case side4 => exact (Kd.R_reads' HO903.out).2.1); rintro e w25 ⟨rfl, hb⟩; refine ⟨_, rfl, ?_⟩; have n0_ := Aside0.mk (Kd.R_below (by (with_reducible repeat (first | apply Kd.R_alloc | apply Kd.R_drewN | apply Kd.R_drew)); exact (Kd.R_mono (Kd.R_far (p := ⟨gb911, 1, none⟩) (Kd.R_far (p := ⟨gb911, 0, none⟩) (Kd.R_types HO903.out BK911.out (by decide)) (fun _ hk => hk.2) (.int .i64 t906)) (fun _ hk => hk.2) (.slice Ao15 t907.length co15)) (fun _ h_ => h_.1))) hb); have n1_ := Aside0.mk (Kd.R_below (by (with_reducible repeat (first | apply Kd.R_alloc | apply Kd.R_drewN | apply Kd.R_drew)); exact (Kd.R_mono (Kd.R_far (p := ⟨gb911, 1, none⟩) (Kd.R_far (p := ⟨gb911, 0, none⟩) (Kd.R_types HO909.out BK911.out (by decide)) (fun _ hk => hk.2) (.int .i64 t906)) (fun _ hk => hk.2) (.slice Ao15 t907.length co15)) (fun _ h_ => h_.1))) hb); have n2_ := Aside0.mk (blk_below (g := gb905) (o := .cells #[.int .i64 t900, .slice Ao10 t901.length co10] 27 (0, 0)) (by (with_reducible repeat (first | refine blk_drewN ?_ _ | refine blk_drew ?_ | refine blk_alloc ?_ _)); refine blk_far ?_ NB905_911.out _; (with_reducible repeat (first | refine blk_drewN ?_ _ | refine blk_drew ?_ | refine blk_alloc ?_ _)); refine blk_far ?_ NB905_911.out _; (with_reducible repeat (first | refine blk_drewN ?_ _ | refine blk_drew ?_ | refine blk_alloc ?_ _)); exact BK905.out) hb); have n3_ := Aside0.mk (blk_below (g := gb911) (o := .cells #[.int .i64 t906, .slice Ao15 t907.length co15] 27 (0, 0)) (by (with_reducible repeat (first | refine blk_drewN ?_ _ | refine blk_drew ?_ | refine blk_alloc ?_ _)); refine blk_put (cs := #[.int .i64 t906, .slice none 0 0]) ?_ 1 _ rfl; (with_reducible repeat (first | refine blk_drewN ?_ _ | refine blk_drew ?_ | refine blk_alloc ?_ _)); refine blk_put (cs := #[.int .i64 0, .slice none 0 0]) ?_ 0 _ rfl; (with_reducible repeat (first | refine blk_drewN ?_ _ | refine blk_drew ?_ | refine blk_alloc ?_ _)); exact BK911.out) hb); have n4_ := Aside0.mk (below_step (by repeat (first | (with_reducible first | exact HB.out | apply below_alloc | apply pw_below_drewN | apply below_drew1 | refine below_set ?_ GE905.out | refine below_set ?_ GE911.out) | exact HB.out)) hb); clear HO903; clear HO909; clear BK905; clear BK911; clear HB; have HO903 := n0_; have HO909 := n1_; have BK905 := n2_; have BK911 := n3_; have HB := n4_; clear n0_ n1_ n2_ n3_ n4_; (try clear hb); (try clear hb2); (try clear hk); (try clear hi)))
      go_meet
      case rel => exact ⟨_, (true), (by first | rfl | (simp; done) | (simp [*]; done)), H', ⟨by first | omega | exact Nat.le_refl _⟩, ⟨by (with_reducible repeat (first | apply Kd.R_alloc | apply Kd.R_drewN | apply Kd.R_drew)); exact Kd.R_mono HO903.out (fun _ hk => hk.2)⟩, ⟨by (with_reducible repeat (first | apply Kd.R_alloc | apply Kd.R_drewN | apply Kd.R_drew)); exact Kd.R_mono HO909.out (fun _ hk => hk.2)⟩, ⟨by (with_reducible repeat (first | refine blk_drewN ?_ _ | refine blk_drew ?_ | refine blk_alloc ?_ _)); exact BK905.out⟩, ⟨by (with_reducible repeat (first | refine blk_drewN ?_ _ | refine blk_drew ?_ | refine blk_alloc ?_ _)); exact BK911.out⟩, ⟨by repeat (first | (with_reducible first | exact HB.out | apply below_alloc | apply pw_below_drewN | apply below_drew1 | refine below_set ?_ GE905.out | refine below_set ?_ GE911.out) | exact HB.out)⟩⟩
  case rest =>
    clear HC6
    try clear c1
    try clear c2
    try clear p2
    try clear c4
    try clear c13
    try clear c14
    try clear c17
    try clear c18
    try clear c19
    try clear c22
    try clear hcz14_0
    try clear hcz14_1
    try clear hcz19_0
    try clear hcz19_1
    try clear hcz20_0
    try clear hcz20_1
    try clear hcz23_0
    try clear hcz23_1
    try clear hcz24_0
    try clear hcz24_1
    try clear hcz9_0
    try clear hcz9_1
    try clear hfz14_0
    try clear hfz14_1
    try clear hfz19_0
    try clear hfz19_1
    try clear hfz20_0
    try clear hfz20_1
    try clear hfz23_0
    try clear hfz23_1
    try clear hfz24_0
    try clear hfz24_1
    try clear hfz9_0
    try clear hfz9_1
    obtain ⟨kq, x37_5, rfl, HA, HJ5, HO_906001, HO_912001, BK905, BK911, HB⟩ := hcut
    cases kq with
    | zero => exact absurd HA.out (by simp [laws_FnExactGridBoard.j0])
    | succ kj5 =>
      have H := HA.out
      clear HA
      simp only [laws_FnExactGridBoard.j0] at H
      by_cases c26 : x37_5 = true
      · subst c26
        have H1 : (none) = some r := by rw [if_pos rfl] at H; exact H
        clear H
        have H := H1
        clear H1
        exact absurd H (by simp)
      · replace c26 := Bool.eq_false_iff.mpr c26
        subst c26
        have H1 : ((laws_markBoard.f kj5 t906 t907 1).bind fun bt913 => ((laws_heldBoard.f kj5 t906 bt913.2 1).bind fun t915 => (if t915 < 0 then (none) else (if t915 = bt913.1 then ((impl_GridBoard.f kj5 a0 a1 a2).bind fun bt916 => ((laws_eqBoard.f kj5 bt916.1 bt916.2.1 t900 t901).bind fun t922 => (if t922 = true then (laws_FnExactGridBoard.j1 kj5 bt913.1 (bt916.2.2 != t904) t906 bt913.2) else (laws_FnExactGridBoard.j1 kj5 bt913.1 true t906 bt913.2)))) else (none))))) = some r := by rw [if_neg (show ¬ (false = true) by decide)] at H; exact H
        clear H
        have H := H1
        clear H1
        replace H := Option.bind_eq_some_iff.mp H
        obtain ⟨⟨t913, t914⟩, A270, H⟩ := H
        replace H : ((laws_heldBoard.f kj5 t906 t914 1).bind fun t915 => (if t915 < 0 then (none) else (if t915 = t913 then ((impl_GridBoard.f kj5 a0 a1 a2).bind fun bt916 => ((laws_eqBoard.f kj5 bt916.1 bt916.2.1 t900 t901).bind fun t922 => (if t922 = true then (laws_FnExactGridBoard.j1 kj5 t913 (bt916.2.2 != t904) t906 t914) else (laws_FnExactGridBoard.j1 kj5 t913 true t906 t914)))) else (none)))) = some r := H
        have A27 := Aside0.mk A270
        clear A270
        replace H := Option.bind_eq_some_iff.mp H
        obtain ⟨t915, A280, H⟩ := H
        replace H : (if t915 < 0 then (none) else (if t915 = t913 then ((impl_GridBoard.f kj5 a0 a1 a2).bind fun bt916 => ((laws_eqBoard.f kj5 bt916.1 bt916.2.1 t900 t901).bind fun t922 => (if t922 = true then (laws_FnExactGridBoard.j1 kj5 t913 (bt916.2.2 != t904) t906 t914) else (laws_FnExactGridBoard.j1 kj5 t913 true t906 t914)))) else (none))) = some r := H
        have A28 := Aside0.mk A280
        clear A280
        by_cases c29 : t915 < 0
        · rw [if_pos c29] at H
          exact absurd H (by simp)
        · rw [if_neg c29] at H
          have c29b0 : decide (t915 < 0) = false := decide_eq_false c29
          clear c29
          by_cases c30 : t915 = t913
          · rw [if_pos c30] at H
            have c30b0 : (t915 == t913) = true := beq_iff_eq.mpr c30
            have c30b1 : (t915 != t913) = false := bne_eq_false_iff_eq.mpr c30
            clear c30
            replace H := Option.bind_eq_some_iff.mp H
            obtain ⟨⟨t916, t917, t920⟩, A310, H⟩ := H
            replace H : ((laws_eqBoard.f kj5 t916 t917 t900 t901).bind fun t922 => (if t922 = true then (laws_FnExactGridBoard.j1 kj5 t913 (t920 != t904) t906 t914) else (laws_FnExactGridBoard.j1 kj5 t913 true t906 t914))) = some r := H
            have A31 := Aside0.mk A310
            clear A310
            have HC32 := Aside0.mk H
            clear H
            have hnb33 := NB911_905.out
            have hnc33 := NB905_911.out
            have hcz34_0 : wc.cell? ⟨gb911, 0, none⟩ = some (.int .i64 t906) := (blk_cell BK911.out 0).trans rfl
            have hcz34_1 : wc.cell? ⟨gb911, 1, none⟩ = some (.slice Ao15 t907.length co15) := (blk_cell BK911.out 1).trans rfl
            have hfz34_0 := blk_frozen BK911.out 0
            have hfz34_1 := blk_frozen BK911.out 1
            go_upto_region 14 with (first | ((with_reducible refine gate_callee (f := 29) rfl ?_); refine goesL_ (some 40) rfl rfl Try.func29 (by kernel_rfl) rfl #[.agg #[.int .i64 t906, .slice Ao15 t907.length co15], .int .i64 1] rfl (by (try simp only [List.map_toArray, List.map_cons, List.map_nil]); first | done | rfl | (simp only [List.length_drop, List.length_take]; rfl)) ?_; (with_reducible refine (laws_markBoard.calls kj5 t906 (fun k_ => some k_ = (.slice Ao15 t907.length co15 : Value).ownBlock) (.slice Ao15 t907.length co15) t907 1 t913 t914 w _ ?side1 ?side2 A27.out).mono ?_); (case side1 => repeat (first | (with_reducible first | exact HB.out | apply below_alloc | apply pw_below_drewN | apply below_drew1 | refine below_set ?_ GE905.out | refine below_set ?_ GE911.out) | exact HB.out)); (case side2 => exact Kd.R_tight rfl HO_912001.out); rintro e w35 ⟨rfl, hy0, hb, hkp⟩; refine ⟨_, rfl, ?_⟩; have n0_ := Aside0.mk (Kd.R_mono (ok' := fun k_ => some k_ ≠ (.slice Ao15 t907.length co15 : Value).ownBlock) (Kd.R_keptB (HO_906001.out) hkp (fun k_ hk_ hs_ => (hk_) hs_)) (fun k_ hk_ => hk_.1)); have n1_ := Aside0.mk (Kd.R_reok rfl hy0 (fun k_ e_ => HO_912001.out.1 k_ e_)); have n2_ := Aside0.mk (blk_kept (by (with_reducible repeat (first | refine blk_drewN ?_ _ | refine blk_drew ?_ | refine blk_alloc ?_ _)); exact BK905.out) hkp (fun hs_ => (fun e_ => (Kd.R_ne HO_912001.out BK905.out (by decide)) e_) hs_)); have n3_ := Aside0.mk (blk_kept (by (with_reducible repeat (first | refine blk_drewN ?_ _ | refine blk_drew ?_ | refine blk_alloc ?_ _)); exact BK911.out) hkp (fun hs_ => (fun e_ => (Kd.R_ne HO_912001.out BK911.out (by decide)) e_) hs_)); have n4_ := Aside0.mk (hb); clear HO_906001; clear HO_912001; clear BK905; clear BK911; clear HB; have HO_906001 := n0_; have HO_912001 := n1_; have BK905 := n2_; have BK911 := n3_; have HB := n4_; clear n0_ n1_ n2_ n3_ n4_; (try clear hb); (try clear hkp); (try clear hy0); have hcz36_0 : w35.cell? ⟨gb911, 0, none⟩ = some (.int .i64 t906) := (blk_cell BK911.out 0).trans rfl; have hcz36_1 : w35.cell? ⟨gb911, 1, none⟩ = some (.slice Ao15 t907.length co15) := (blk_cell BK911.out 1).trans rfl; have hfz36_0 := blk_frozen BK911.out 0; have hfz36_1 := blk_frozen BK911.out 1) | ((with_reducible refine gate_callee (f := 49) rfl ?_); refine goesL_ (some 43) rfl rfl Try.func49 (by kernel_rfl) rfl #[.agg #[.int .i64 t906, .slice Ao15 t914.length co15], .int .i64 1] rfl (by (try simp only [List.map_toArray, List.map_cons, List.map_nil]); first | done | (rw [show t914.length = t907.length from (Kd.R_reads' HO_912001.out).1.symm] <;> rfl) | rfl | (simp only [List.length_drop, List.length_take]; rfl)) ?_; (with_reducible refine (laws_heldBoard.calls kj5 t906 _ _ t914 1 t915 _ ?side1 ?side2 A28.out).mono ?_); (case side1 => repeat (first | exact (Kd.R_reads' HO_912001.out).2.2 | (with_reducible refine Kd.C_alloc ?_ _) | (with_reducible refine Kd.C_drewN ?_ _) | (with_reducible refine Kd.C_drew ?_))); (case side2 => rw [show t914.length = t907.length from (Kd.R_reads' HO_912001.out).1.symm]; exact (Kd.R_reads' HO_912001.out).2.1); rintro e w37 ⟨rfl, hb⟩; refine ⟨_, rfl, ?_⟩; have n0_ := Aside0.mk (Kd.R_below (by (with_reducible repeat (first | apply Kd.R_alloc | apply Kd.R_drewN | apply Kd.R_drew)); exact HO_906001.out) hb); have n1_ := Aside0.mk (Kd.R_below (by (with_reducible repeat (first | apply Kd.R_alloc | apply Kd.R_drewN | apply Kd.R_drew)); exact HO_912001.out) hb); have n2_ := Aside0.mk (blk_below (g := gb905) (o := .cells #[.int .i64 t900, .slice Ao10 t901.length co10] 27 (0, 0)) (by (with_reducible repeat (first | refine blk_drewN ?_ _ | refine blk_drew ?_ | refine blk_alloc ?_ _)); exact BK905.out) hb); have n3_ := Aside0.mk (blk_below (g := gb911) (o := .cells #[.int .i64 t906, .slice Ao15 t907.length co15] 27 (0, 0)) (by (with_reducible repeat (first | refine blk_drewN ?_ _ | refine blk_drew ?_ | refine blk_alloc ?_ _)); exact BK911.out) hb); have n4_ := Aside0.mk (below_step (by repeat (first | (with_reducible first | exact HB.out | apply below_alloc | apply pw_below_drewN | apply below_drew1 | refine below_set ?_ GE905.out | refine below_set ?_ GE911.out) | exact HB.out)) hb); clear HO_906001; clear HO_912001; clear BK905; clear BK911; clear HB; have HO_906001 := n0_; have HO_912001 := n1_; have BK905 := n2_; have BK911 := n3_; have HB := n4_; clear n0_ n1_ n2_ n3_ n4_; (try clear hb); (try clear hb2); (try clear hk); (try clear hi)) | ((with_reducible refine gate_callee (f := 48) rfl ?_); refine goesL_ (some 53) rfl rfl Try.func48 (by kernel_rfl) rfl #[.int .i64 a0, .int .i64 a1, .int .i64 a2] rfl (by (try simp only [List.map_toArray, List.map_cons, List.map_nil]); first | done | rfl | (simp only [List.length_drop, List.length_take]; rfl)) ?_; (with_reducible refine (impl_GridBoard.calls kj5 a0 a1 a2 t916 t917 t920 _ A31.out).mono ?_); rintro e w38 ⟨v918, rfl, ho0, hb⟩; refine ⟨_, rfl, ?_⟩; have n0_ := Aside0.mk (Kd.R_elder' (by (with_reducible repeat (first | apply Kd.R_alloc | apply Kd.R_drewN | apply Kd.R_drew)); exact HO_906001.out) (Kd.R_base ho0) hb); have n1_ := Aside0.mk (Kd.R_elder' (by (with_reducible repeat (first | apply Kd.R_alloc | apply Kd.R_drewN | apply Kd.R_drew)); exact HO_912001.out) (Kd.R_base ho0) hb); have n2_ := Aside0.mk (Kd.R_lower (Kd.R_new' (Kd.R_new' ho0 (Kd.R_lt (by (with_reducible repeat (first | apply Kd.R_alloc | apply Kd.R_drewN | apply Kd.R_drew)); exact HO_906001.out))) (Kd.R_lt (by (with_reducible repeat (first | apply Kd.R_alloc | apply Kd.R_drewN | apply Kd.R_drew)); exact HO_912001.out))) (below_size (by repeat (first | (with_reducible first | exact HB.out | apply below_alloc | apply pw_below_drewN | apply below_drew1 | refine below_set ?_ GE905.out | refine below_set ?_ GE911.out) | exact HB.out)))); have n3_ := Aside0.mk (blk_below (g := gb905) (o := .cells #[.int .i64 t900, .slice Ao10 t901.length co10] 27 (0, 0)) (by (with_reducible repeat (first | refine blk_drewN ?_ _ | refine blk_drew ?_ | refine blk_alloc ?_ _)); exact BK905.out) hb); have n4_ := Aside0.mk (blk_below (g := gb911) (o := .cells #[.int .i64 t906, .slice Ao15 t907.length co15] 27 (0, 0)) (by (with_reducible repeat (first | refine blk_drewN ?_ _ | refine blk_drew ?_ | refine blk_alloc ?_ _)); exact BK911.out) hb); have n5_ := Aside0.mk (below_step (by repeat (first | (with_reducible first | exact HB.out | apply below_alloc | apply pw_below_drewN | apply below_drew1 | refine below_set ?_ GE905.out | refine below_set ?_ GE911.out) | exact HB.out)) hb); clear HO_906001; clear HO_912001; clear BK905; clear BK911; clear HB; have HO_906001 := n0_; have HO_912001 := n1_; have HO919 := n2_; have BK905 := n3_; have BK911 := n4_; have HB := n5_; clear n0_ n1_ n2_ n3_ n4_ n5_; (try clear hb); (try clear hb2); (try clear hk); (try clear hi); (try clear ho0)) | ((with_reducible refine gate_dst (N := 13) rfl ?_); refine box_event ?hg (N := 13) ?hd (cs := #[.int .i64 0, .slice none 0 0]) (t := 27) ?hr ?_; (case hd => rfl); (case hg => rfl); (case hr => first | (go_simp; done) | (go_simp; rfl)); intro gb921 hg w39 hbox hb; have n0_ := Aside0.mk (Kd.R_below (by (with_reducible repeat (first | apply Kd.R_alloc | apply Kd.R_drewN | apply Kd.R_drew)); exact HO_906001.out) hb); have n1_ := Aside0.mk (Kd.R_below (by (with_reducible repeat (first | apply Kd.R_alloc | apply Kd.R_drewN | apply Kd.R_drew)); exact HO_912001.out) hb); have n2_ := Aside0.mk (Kd.R_below (by (with_reducible repeat (first | apply Kd.R_alloc | apply Kd.R_drewN | apply Kd.R_drew)); exact HO919.out) hb); have n3_ := Aside0.mk (blk_below (g := gb905) (o := .cells #[.int .i64 t900, .slice Ao10 t901.length co10] 27 (0, 0)) (by (with_reducible repeat (first | refine blk_drewN ?_ _ | refine blk_drew ?_ | refine blk_alloc ?_ _)); exact BK905.out) hb); have n4_ := Aside0.mk (blk_below (g := gb911) (o := .cells #[.int .i64 t906, .slice Ao15 t907.length co15] 27 (0, 0)) (by (with_reducible repeat (first | refine blk_drewN ?_ _ | refine blk_drew ?_ | refine blk_alloc ?_ _)); exact BK911.out) hb); have n5_ := Aside0.mk (below_step (by repeat (first | (with_reducible first | exact HB.out | apply below_alloc | apply pw_below_drewN | apply below_drew1 | refine below_set ?_ GE905.out | refine below_set ?_ GE911.out) | exact HB.out)) hb); have n6_ := Aside0.mk (hbox); have n7_ := Aside0.mk ((by rw [hg]; exact (below_size (by repeat (first | (with_reducible first | exact HB.out | apply below_alloc | apply pw_below_drewN | apply below_drew1 | refine below_set ?_ GE905.out | refine below_set ?_ GE911.out) | exact HB.out))) : w.heap.size ≤ gb921)); have n8_ := Aside0.mk ((by rw [hg]; exact (below_size (by repeat (first | (with_reducible first | exact HB.out | apply below_alloc | apply pw_below_drewN | apply below_drew1 | refine below_set ?_ GE905.out | refine below_set ?_ GE911.out) | exact HB.out))) : w.heap.size ≤ gb921)); have n9_ := Aside0.mk ((by rw [hg]; exact Nat.ne_of_lt (blk_lt (g := gb905) (o := .cells #[.int .i64 t900, .slice Ao10 t901.length co10] 27 (0, 0)) (by (with_reducible repeat (first | refine blk_drewN ?_ _ | refine blk_drew ?_ | refine blk_alloc ?_ _)); exact BK905.out)) : gb905 ≠ gb921)); have n10_ := Aside0.mk ((by rw [hg]; exact Nat.ne_of_gt (blk_lt (g := gb905) (o := .cells #[.int .i64 t900, .slice Ao10 t901.length co10] 27 (0, 0)) (by (with_reducible repeat (first | refine blk_drewN ?_ _ | refine blk_drew ?_ | refine blk_alloc ?_ _)); exact BK905.out)) : gb921 ≠ gb905)); have n11_ := Aside0.mk ((by rw [hg]; exact Nat.ne_of_lt (blk_lt (g := gb911) (o := .cells #[.int .i64 t906, .slice Ao15 t907.length co15] 27 (0, 0)) (by (with_reducible repeat (first | refine blk_drewN ?_ _ | refine blk_drew ?_ | refine blk_alloc ?_ _)); exact BK911.out)) : gb911 ≠ gb921)); have n12_ := Aside0.mk ((by rw [hg]; exact Nat.ne_of_gt (blk_lt (g := gb911) (o := .cells #[.int .i64 t906, .slice Ao15 t907.length co15] 27 (0, 0)) (by (with_reducible repeat (first | refine blk_drewN ?_ _ | refine blk_drew ?_ | refine blk_alloc ?_ _)); exact BK911.out)) : gb921 ≠ gb911)); clear HO_906001; clear HO_912001; clear HO919; clear BK905; clear BK911; clear HB; have HO_906001 := n0_; have HO_912001 := n1_; have HO919 := n2_; have BK905 := n3_; have BK911 := n4_; have HB := n5_; have BK921 := n6_; have GW921 := n7_; have GE921 := n8_; have NB905_921 := n9_; have NB921_905 := n10_; have NB911_921 := n11_; have NB921_911 := n12_; clear n0_ n1_ n2_ n3_ n4_ n5_ n6_ n7_ n8_ n9_ n10_ n11_ n12_; clear hb hbox hg; have hnb40 := NB921_905.out; have hnc40 := NB905_921.out; have hnb41 := NB921_911.out; have hnc41 := NB911_921.out; have hcz42_0 : w39.cell? ⟨gb921, 0, none⟩ = some (.int .i64 0) := (blk_cell BK921.out 0).trans rfl; have hcz42_1 : w39.cell? ⟨gb921, 1, none⟩ = some (.slice none 0 0) := (blk_cell BK921.out 1).trans rfl; have hfz42_0 := blk_frozen BK921.out 0; have hfz42_1 := blk_frozen BK921.out 1; obtain ⟨Ao43, co43, eo43⟩ := Kd.R_slice HO919.out; subst eo43))
            (try simp only [Act.put, List.setIfInBounds_toArray, List.set_cons_zero, List.set_cons_succ])
            go_cut [64] (fun v64 wc => ∃ (kq : Nat) (x64_31 : Bool), v64 = .bool x64_31 ∧ Aside0 (laws_FnExactGridBoard.j1 kq t913 x64_31 t906 t914 = some r) ∧ Aside0 (kq ≤ kj5) ∧ Aside0 (Kd.R (Kd.int .i64) 2 wc w.heap.size (fun k_ => some k_ ≠ ((.slice Ao15 t907.length co15) : Value).ownBlock ∧ some k_ ≠ ((.slice Ao43 t917.length co43) : Value).ownBlock) (.slice Ao10 t901.length co10) t901) ∧ Aside0 (Kd.R (Kd.int .i64) 2 wc w.heap.size (fun k_ => some k_ ≠ ((.slice Ao10 t901.length co10) : Value).ownBlock ∧ some k_ ≠ ((.slice Ao43 t917.length co43) : Value).ownBlock) (.slice Ao15 t907.length co15) t914) ∧ Aside0 (Kd.R (Kd.int .i64) 2 wc w.heap.size (fun k_ => some k_ ≠ ((.slice Ao10 t901.length co10) : Value).ownBlock ∧ some k_ ≠ ((.slice Ao15 t907.length co15) : Value).ownBlock) (.slice Ao43 t917.length co43) t917) ∧ Aside0 (wc.heap[gb905]? = some (.cells #[.int .i64 t900, (.slice Ao10 t901.length co10)] 27 (0, 0))) ∧ Aside0 (wc.heap[gb911]? = some (.cells #[.int .i64 t906, (.slice Ao15 t907.length co15)] 27 (0, 0))) ∧ Aside0 (wc.heap[gb921]? = some (.cells #[.int .i64 t916, (.slice Ao43 t917.length co43)] 27 (0, 0))) ∧ Aside0 (Below w.heap.size w wc))
            case first =>
              have H := HC32.out
              clear HC32
              replace H := Option.bind_eq_some_iff.mp H
              obtain ⟨t922, A440, H⟩ := H
              replace H : (if t922 = true then (laws_FnExactGridBoard.j1 kj5 t913 (t920 != t904) t906 t914) else (laws_FnExactGridBoard.j1 kj5 t913 true t906 t914)) = some r := H
              have A44 := Aside0.mk A440
              clear A440
              by_cases c45 : t922 = true
              · subst c45
                have H1 : (laws_FnExactGridBoard.j1 kj5 t913 (t920 != t904) t906 t914) = some r := by rw [if_pos rfl] at H; exact H
                clear H
                have H := H1
                clear H1
                have H' := Aside0.mk H
                clear H
                have hnb46 := NB921_905.out
                have hnc46 := NB905_921.out
                have hnb47 := NB921_911.out
                have hnc47 := NB911_921.out
                have hcz48_0 : w39.cell? ⟨gb921, 0, none⟩ = some (.int .i64 0) := (blk_cell BK921.out 0).trans rfl
                have hcz48_1 : w39.cell? ⟨gb921, 1, none⟩ = some (.slice none 0 0) := (blk_cell BK921.out 1).trans rfl
                have hfz48_0 := blk_frozen BK921.out 0
                have hfz48_1 := blk_frozen BK921.out 1
                have hnb49 := NB905_911.out
                have hnc49 := NB911_905.out
                have hcz50_0 : w39.cell? ⟨gb905, 0, none⟩ = some (.int .i64 t900) := (blk_cell BK905.out 0).trans rfl
                have hcz50_1 : w39.cell? ⟨gb905, 1, none⟩ = some (.slice Ao10 t901.length co10) := (blk_cell BK905.out 1).trans rfl
                have hfz50_0 := blk_frozen BK905.out 0
                have hfz50_1 := blk_frozen BK905.out 1
                go_wp2_with (first | ((with_reducible refine gate_callee (f := 19) rfl ?_); refine goesL_ (some 58) rfl rfl Try.func19 (by kernel_rfl) rfl #[.agg #[.int .i64 t916, .slice Ao43 t917.length co43], .agg #[.int .i64 t900, .slice Ao10 t901.length co10]] rfl (by (try simp only [List.map_toArray, List.map_cons, List.map_nil]); first | done | rfl | (simp only [List.length_drop, List.length_take]; rfl)) ?_; (with_reducible refine (laws_eqBoard.calls kj5 t916 _ _ t917 t900 _ _ t901 true _ ?side1 ?side2 ?side3 ?side4 A44.out).mono ?_); (case side1 => refine (Kd.R_reads' (e := 2) (base := w.heap.size) (ok := fun k_ => ((True ∧ some k_ ≠ (.slice Ao10 t901.length co10 : Value).ownBlock) ∧ some k_ ≠ (.slice Ao15 t907.length co15 : Value).ownBlock)) (n := t917.length) (c := co43) ?_).2.2; exact (by (with_reducible repeat (first | apply Kd.R_alloc | apply Kd.R_drewN | apply Kd.R_drew)); exact (Kd.R_mono (Kd.R_far (p := ⟨gb921, 1, none⟩) (Kd.R_far (p := ⟨gb921, 0, none⟩) (Kd.R_types HO919.out BK921.out (by decide)) (fun _ hk => hk.2) (.int .i64 t916)) (fun _ hk => hk.2) (.slice Ao43 t917.length co43)) (fun _ h_ => h_.1)))); (case side2 => exact (Kd.R_reads' HO919.out).2.1); (case side3 => refine (Kd.R_reads' (e := 2) (base := w.heap.size) (ok := fun k_ => (some k_ ≠ (.slice Ao15 t907.length co15 : Value).ownBlock ∧ some k_ ≠ (.slice Ao43 t917.length co43 : Value).ownBlock)) (n := t901.length) (c := co10) ?_).2.2; exact (by (with_reducible repeat (first | apply Kd.R_alloc | apply Kd.R_drewN | apply Kd.R_drew)); exact (Kd.R_mono (Kd.R_far (p := ⟨gb921, 1, none⟩) (Kd.R_far (p := ⟨gb921, 0, none⟩) (Kd.R_types HO_906001.out BK921.out (by decide)) (fun _ hk => hk.2) (.int .i64 t916)) (fun _ hk => hk.2) (.slice Ao43 t917.length co43)) (fun _ h_ => h_.1)))); (case side4 => exact (Kd.R_reads' HO_906001.out).2.1); rintro e w51 ⟨rfl, hb⟩; refine ⟨_, rfl, ?_⟩; have n0_ := Aside0.mk (Kd.R_below (by (with_reducible repeat (first | apply Kd.R_alloc | apply Kd.R_drewN | apply Kd.R_drew)); exact (Kd.R_mono (Kd.R_far (p := ⟨gb921, 1, none⟩) (Kd.R_far (p := ⟨gb921, 0, none⟩) (Kd.R_types HO_906001.out BK921.out (by decide)) (fun _ hk => hk.2) (.int .i64 t916)) (fun _ hk => hk.2) (.slice Ao43 t917.length co43)) (fun _ h_ => h_.1))) hb); have n1_ := Aside0.mk (Kd.R_below (by (with_reducible repeat (first | apply Kd.R_alloc | apply Kd.R_drewN | apply Kd.R_drew)); exact (Kd.R_mono (Kd.R_far (p := ⟨gb921, 1, none⟩) (Kd.R_far (p := ⟨gb921, 0, none⟩) (Kd.R_types HO_912001.out BK921.out (by decide)) (fun _ hk => hk.2) (.int .i64 t916)) (fun _ hk => hk.2) (.slice Ao43 t917.length co43)) (fun _ h_ => h_.1))) hb); have n2_ := Aside0.mk (Kd.R_below (by (with_reducible repeat (first | apply Kd.R_alloc | apply Kd.R_drewN | apply Kd.R_drew)); exact (Kd.R_mono (Kd.R_far (p := ⟨gb921, 1, none⟩) (Kd.R_far (p := ⟨gb921, 0, none⟩) (Kd.R_types HO919.out BK921.out (by decide)) (fun _ hk => hk.2) (.int .i64 t916)) (fun _ hk => hk.2) (.slice Ao43 t917.length co43)) (fun _ h_ => h_.1))) hb); have n3_ := Aside0.mk (blk_below (g := gb905) (o := .cells #[.int .i64 t900, .slice Ao10 t901.length co10] 27 (0, 0)) (by (with_reducible repeat (first | refine blk_drewN ?_ _ | refine blk_drew ?_ | refine blk_alloc ?_ _)); refine blk_far ?_ NB905_921.out _; (with_reducible repeat (first | refine blk_drewN ?_ _ | refine blk_drew ?_ | refine blk_alloc ?_ _)); refine blk_far ?_ NB905_921.out _; (with_reducible repeat (first | refine blk_drewN ?_ _ | refine blk_drew ?_ | refine blk_alloc ?_ _)); exact BK905.out) hb); have n4_ := Aside0.mk (blk_below (g := gb911) (o := .cells #[.int .i64 t906, .slice Ao15 t907.length co15] 27 (0, 0)) (by (with_reducible repeat (first | refine blk_drewN ?_ _ | refine blk_drew ?_ | refine blk_alloc ?_ _)); refine blk_far ?_ NB911_921.out _; (with_reducible repeat (first | refine blk_drewN ?_ _ | refine blk_drew ?_ | refine blk_alloc ?_ _)); refine blk_far ?_ NB911_921.out _; (with_reducible repeat (first | refine blk_drewN ?_ _ | refine blk_drew ?_ | refine blk_alloc ?_ _)); exact BK911.out) hb); have n5_ := Aside0.mk (blk_below (g := gb921) (o := .cells #[.int .i64 t916, .slice Ao43 t917.length co43] 27 (0, 0)) (by (with_reducible repeat (first | refine blk_drewN ?_ _ | refine blk_drew ?_ | refine blk_alloc ?_ _)); refine blk_put (cs := #[.int .i64 t916, .slice none 0 0]) ?_ 1 _ rfl; (with_reducible repeat (first | refine blk_drewN ?_ _ | refine blk_drew ?_ | refine blk_alloc ?_ _)); refine blk_put (cs := #[.int .i64 0, .slice none 0 0]) ?_ 0 _ rfl; (with_reducible repeat (first | refine blk_drewN ?_ _ | refine blk_drew ?_ | refine blk_alloc ?_ _)); exact BK921.out) hb); have n6_ := Aside0.mk (below_step (by repeat (first | (with_reducible first | exact HB.out | apply below_alloc | apply pw_below_drewN | apply below_drew1 | refine below_set ?_ GE905.out | refine below_set ?_ GE911.out | refine below_set ?_ GE921.out) | exact HB.out)) hb); clear HO_906001; clear HO_912001; clear HO919; clear BK905; clear BK911; clear BK921; clear HB; have HO_906001 := n0_; have HO_912001 := n1_; have HO919 := n2_; have BK905 := n3_; have BK911 := n4_; have BK921 := n5_; have HB := n6_; clear n0_ n1_ n2_ n3_ n4_ n5_ n6_; (try clear hb); (try clear hb2); (try clear hk); (try clear hi)))
                go_meet
                case rel => exact ⟨_, ((t920 != t904)), (by first | rfl | (simp; done) | (simp [*]; done)), H', ⟨by have := HJ5.out; first | omega | exact Nat.le_refl _⟩, ⟨by (with_reducible repeat (first | apply Kd.R_alloc | apply Kd.R_drewN | apply Kd.R_drew)); exact HO_906001.out⟩, ⟨by (with_reducible repeat (first | apply Kd.R_alloc | apply Kd.R_drewN | apply Kd.R_drew)); exact HO_912001.out⟩, ⟨by (with_reducible repeat (first | apply Kd.R_alloc | apply Kd.R_drewN | apply Kd.R_drew)); exact Kd.R_mono HO919.out (fun _ hk => ⟨hk.1.2, hk.2⟩)⟩, ⟨by (with_reducible repeat (first | refine blk_drewN ?_ _ | refine blk_drew ?_ | refine blk_alloc ?_ _)); exact BK905.out⟩, ⟨by (with_reducible repeat (first | refine blk_drewN ?_ _ | refine blk_drew ?_ | refine blk_alloc ?_ _)); exact BK911.out⟩, ⟨by (with_reducible repeat (first | refine blk_drewN ?_ _ | refine blk_drew ?_ | refine blk_alloc ?_ _)); exact BK921.out⟩, ⟨by repeat (first | (with_reducible first | exact HB.out | apply below_alloc | apply pw_below_drewN | apply below_drew1 | refine below_set ?_ GE905.out | refine below_set ?_ GE911.out | refine below_set ?_ GE921.out) | exact HB.out)⟩⟩
              · replace c45 := Bool.eq_false_iff.mpr c45
                subst c45
                have H1 : (laws_FnExactGridBoard.j1 kj5 t913 true t906 t914) = some r := by rw [if_neg (show ¬ (false = true) by decide)] at H; exact H
                clear H
                have H := H1
                clear H1
                have H' := Aside0.mk H
                clear H
                have hnb52 := NB921_905.out
                have hnc52 := NB905_921.out
                have hnb53 := NB921_911.out
                have hnc53 := NB911_921.out
                have hcz54_0 : w39.cell? ⟨gb921, 0, none⟩ = some (.int .i64 0) := (blk_cell BK921.out 0).trans rfl
                have hcz54_1 : w39.cell? ⟨gb921, 1, none⟩ = some (.slice none 0 0) := (blk_cell BK921.out 1).trans rfl
                have hfz54_0 := blk_frozen BK921.out 0
                have hfz54_1 := blk_frozen BK921.out 1
                have hnb55 := NB905_911.out
                have hnc55 := NB911_905.out
                have hcz56_0 : w39.cell? ⟨gb905, 0, none⟩ = some (.int .i64 t900) := (blk_cell BK905.out 0).trans rfl
                have hcz56_1 : w39.cell? ⟨gb905, 1, none⟩ = some (.slice Ao10 t901.length co10) := (blk_cell BK905.out 1).trans rfl
                have hfz56_0 := blk_frozen BK905.out 0
                have hfz56_1 := blk_frozen BK905.out 1
                go_wp2_with (first | ((with_reducible refine gate_callee (f := 19) rfl ?_); refine goesL_ (some 58) rfl rfl Try.func19 (by kernel_rfl) rfl #[.agg #[.int .i64 t916, .slice Ao43 t917.length co43], .agg #[.int .i64 t900, .slice Ao10 t901.length co10]] rfl (by (try simp only [List.map_toArray, List.map_cons, List.map_nil]); first | done | rfl | (simp only [List.length_drop, List.length_take]; rfl)) ?_; (with_reducible refine (laws_eqBoard.calls kj5 t916 _ _ t917 t900 _ _ t901 false _ ?side1 ?side2 ?side3 ?side4 A44.out).mono ?_); (case side1 => refine (Kd.R_reads' (e := 2) (base := w.heap.size) (ok := fun k_ => ((True ∧ some k_ ≠ (.slice Ao10 t901.length co10 : Value).ownBlock) ∧ some k_ ≠ (.slice Ao15 t907.length co15 : Value).ownBlock)) (n := t917.length) (c := co43) ?_).2.2; exact (by (with_reducible repeat (first | apply Kd.R_alloc | apply Kd.R_drewN | apply Kd.R_drew)); exact (Kd.R_mono (Kd.R_far (p := ⟨gb921, 1, none⟩) (Kd.R_far (p := ⟨gb921, 0, none⟩) (Kd.R_types HO919.out BK921.out (by decide)) (fun _ hk => hk.2) (.int .i64 t916)) (fun _ hk => hk.2) (.slice Ao43 t917.length co43)) (fun _ h_ => h_.1)))); (case side2 => exact (Kd.R_reads' HO919.out).2.1); (case side3 => refine (Kd.R_reads' (e := 2) (base := w.heap.size) (ok := fun k_ => (some k_ ≠ (.slice Ao15 t907.length co15 : Value).ownBlock ∧ some k_ ≠ (.slice Ao43 t917.length co43 : Value).ownBlock)) (n := t901.length) (c := co10) ?_).2.2; exact (by (with_reducible repeat (first | apply Kd.R_alloc | apply Kd.R_drewN | apply Kd.R_drew)); exact (Kd.R_mono (Kd.R_far (p := ⟨gb921, 1, none⟩) (Kd.R_far (p := ⟨gb921, 0, none⟩) (Kd.R_types HO_906001.out BK921.out (by decide)) (fun _ hk => hk.2) (.int .i64 t916)) (fun _ hk => hk.2) (.slice Ao43 t917.length co43)) (fun _ h_ => h_.1)))); (case side4 => exact (Kd.R_reads' HO_906001.out).2.1); rintro e w57 ⟨rfl, hb⟩; refine ⟨_, rfl, ?_⟩; have n0_ := Aside0.mk (Kd.R_below (by (with_reducible repeat (first | apply Kd.R_alloc | apply Kd.R_drewN | apply Kd.R_drew)); exact (Kd.R_mono (Kd.R_far (p := ⟨gb921, 1, none⟩) (Kd.R_far (p := ⟨gb921, 0, none⟩) (Kd.R_types HO_906001.out BK921.out (by decide)) (fun _ hk => hk.2) (.int .i64 t916)) (fun _ hk => hk.2) (.slice Ao43 t917.length co43)) (fun _ h_ => h_.1))) hb); have n1_ := Aside0.mk (Kd.R_below (by (with_reducible repeat (first | apply Kd.R_alloc | apply Kd.R_drewN | apply Kd.R_drew)); exact (Kd.R_mono (Kd.R_far (p := ⟨gb921, 1, none⟩) (Kd.R_far (p := ⟨gb921, 0, none⟩) (Kd.R_types HO_912001.out BK921.out (by decide)) (fun _ hk => hk.2) (.int .i64 t916)) (fun _ hk => hk.2) (.slice Ao43 t917.length co43)) (fun _ h_ => h_.1))) hb); have n2_ := Aside0.mk (Kd.R_below (by (with_reducible repeat (first | apply Kd.R_alloc | apply Kd.R_drewN | apply Kd.R_drew)); exact (Kd.R_mono (Kd.R_far (p := ⟨gb921, 1, none⟩) (Kd.R_far (p := ⟨gb921, 0, none⟩) (Kd.R_types HO919.out BK921.out (by decide)) (fun _ hk => hk.2) (.int .i64 t916)) (fun _ hk => hk.2) (.slice Ao43 t917.length co43)) (fun _ h_ => h_.1))) hb); have n3_ := Aside0.mk (blk_below (g := gb905) (o := .cells #[.int .i64 t900, .slice Ao10 t901.length co10] 27 (0, 0)) (by (with_reducible repeat (first | refine blk_drewN ?_ _ | refine blk_drew ?_ | refine blk_alloc ?_ _)); refine blk_far ?_ NB905_921.out _; (with_reducible repeat (first | refine blk_drewN ?_ _ | refine blk_drew ?_ | refine blk_alloc ?_ _)); refine blk_far ?_ NB905_921.out _; (with_reducible repeat (first | refine blk_drewN ?_ _ | refine blk_drew ?_ | refine blk_alloc ?_ _)); exact BK905.out) hb); have n4_ := Aside0.mk (blk_below (g := gb911) (o := .cells #[.int .i64 t906, .slice Ao15 t907.length co15] 27 (0, 0)) (by (with_reducible repeat (first | refine blk_drewN ?_ _ | refine blk_drew ?_ | refine blk_alloc ?_ _)); refine blk_far ?_ NB911_921.out _; (with_reducible repeat (first | refine blk_drewN ?_ _ | refine blk_drew ?_ | refine blk_alloc ?_ _)); refine blk_far ?_ NB911_921.out _; (with_reducible repeat (first | refine blk_drewN ?_ _ | refine blk_drew ?_ | refine blk_alloc ?_ _)); exact BK911.out) hb); have n5_ := Aside0.mk (blk_below (g := gb921) (o := .cells #[.int .i64 t916, .slice Ao43 t917.length co43] 27 (0, 0)) (by (with_reducible repeat (first | refine blk_drewN ?_ _ | refine blk_drew ?_ | refine blk_alloc ?_ _)); refine blk_put (cs := #[.int .i64 t916, .slice none 0 0]) ?_ 1 _ rfl; (with_reducible repeat (first | refine blk_drewN ?_ _ | refine blk_drew ?_ | refine blk_alloc ?_ _)); refine blk_put (cs := #[.int .i64 0, .slice none 0 0]) ?_ 0 _ rfl; (with_reducible repeat (first | refine blk_drewN ?_ _ | refine blk_drew ?_ | refine blk_alloc ?_ _)); exact BK921.out) hb); have n6_ := Aside0.mk (below_step (by repeat (first | (with_reducible first | exact HB.out | apply below_alloc | apply pw_below_drewN | apply below_drew1 | refine below_set ?_ GE905.out | refine below_set ?_ GE911.out | refine below_set ?_ GE921.out) | exact HB.out)) hb); clear HO_906001; clear HO_912001; clear HO919; clear BK905; clear BK911; clear BK921; clear HB; have HO_906001 := n0_; have HO_912001 := n1_; have HO919 := n2_; have BK905 := n3_; have BK911 := n4_; have BK921 := n5_; have HB := n6_; clear n0_ n1_ n2_ n3_ n4_ n5_ n6_; (try clear hb); (try clear hb2); (try clear hk); (try clear hi)))
                go_meet
                case rel => exact ⟨_, (true), (by first | rfl | (simp; done) | (simp [*]; done)), H', ⟨by have := HJ5.out; first | omega | exact Nat.le_refl _⟩, ⟨by (with_reducible repeat (first | apply Kd.R_alloc | apply Kd.R_drewN | apply Kd.R_drew)); exact HO_906001.out⟩, ⟨by (with_reducible repeat (first | apply Kd.R_alloc | apply Kd.R_drewN | apply Kd.R_drew)); exact HO_912001.out⟩, ⟨by (with_reducible repeat (first | apply Kd.R_alloc | apply Kd.R_drewN | apply Kd.R_drew)); exact Kd.R_mono HO919.out (fun _ hk => ⟨hk.1.2, hk.2⟩)⟩, ⟨by (with_reducible repeat (first | refine blk_drewN ?_ _ | refine blk_drew ?_ | refine blk_alloc ?_ _)); exact BK905.out⟩, ⟨by (with_reducible repeat (first | refine blk_drewN ?_ _ | refine blk_drew ?_ | refine blk_alloc ?_ _)); exact BK911.out⟩, ⟨by (with_reducible repeat (first | refine blk_drewN ?_ _ | refine blk_drew ?_ | refine blk_alloc ?_ _)); exact BK921.out⟩, ⟨by repeat (first | (with_reducible first | exact HB.out | apply below_alloc | apply pw_below_drewN | apply below_drew1 | refine below_set ?_ GE905.out | refine below_set ?_ GE911.out | refine below_set ?_ GE921.out) | exact HB.out)⟩⟩
            case rest =>
              clear HC32
              try clear c1
              try clear c2
              try clear p2
              try clear c3
              try clear c4
              try clear c5
              try clear c13
              try clear c14
              try clear c17
              try clear c18
              try clear c19
              try clear c22
              try clear c26
              try clear c29
              try clear c29b0
              try clear c30
              try clear c30b0
              try clear c30b1
              try clear c33
              try clear c40
              try clear c41
              try clear c45
              try clear c46
              try clear c47
              try clear c48
              try clear c49
              try clear c52
              try clear c53
              try clear c55
              try clear hcz14_0
              try clear hcz14_1
              try clear hcz19_0
              try clear hcz19_1
              try clear hcz20_0
              try clear hcz20_1
              try clear hcz23_0
              try clear hcz23_1
              try clear hcz24_0
              try clear hcz24_1
              try clear hcz34_0
              try clear hcz34_1
              try clear hcz36_0
              try clear hcz36_1
              try clear hcz42_0
              try clear hcz42_1
              try clear hcz48_0
              try clear hcz48_1
              try clear hcz50_0
              try clear hcz50_1
              try clear hcz54_0
              try clear hcz54_1
              try clear hcz56_0
              try clear hcz56_1
              try clear hcz9_0
              try clear hcz9_1
              try clear hfz14_0
              try clear hfz14_1
              try clear hfz19_0
              try clear hfz19_1
              try clear hfz20_0
              try clear hfz20_1
              try clear hfz23_0
              try clear hfz23_1
              try clear hfz24_0
              try clear hfz24_1
              try clear hfz34_0
              try clear hfz34_1
              try clear hfz36_0
              try clear hfz36_1
              try clear hfz42_0
              try clear hfz42_1
              try clear hfz48_0
              try clear hfz48_1
              try clear hfz50_0
              try clear hfz50_1
              try clear hfz54_0
              try clear hfz54_1
              try clear hfz56_0
              try clear hfz56_1
              try clear hfz9_0
              try clear hfz9_1
              try clear p2
              obtain ⟨kq, x64_31, rfl, HA, HJ31, HO_906001, HO_912001, HO_922001, BK905, BK911, BK921, HB⟩ := hcut
              have hl912001_31 := (Kd.R_reads' HO_912001.out).1
              rw [hl912001_31] at HO_912001
              (try simp only [hl912001_31])
              (try simp only [hl912001_31] at BK905)
              (try simp only [hl912001_31] at BK911)
              (try simp only [hl912001_31] at BK921)
              (try simp only [hl912001_31] at HO_906001)
              (try simp only [hl912001_31] at HO_922001)
              cases kq with
              | zero => exact absurd HA.out (by simp [laws_FnExactGridBoard.j1])
              | succ kj31 =>
                have H := HA.out
                clear HA
                simp only [laws_FnExactGridBoard.j1] at H
                by_cases c58 : x64_31 = true
                · subst c58
                  have H1 : (none) = some r := by rw [if_pos rfl] at H; exact H
                  clear H
                  have H := H1
                  clear H1
                  exact absurd H (by simp)
                · replace c58 := Bool.eq_false_iff.mpr c58
                  subst c58
                  have H1 : ((laws_heldBoard.f kj31 t906 t914 1).bind fun t923 => (if t923 < 0 then (none) else (if t923 = t913 then (some true) else (none)))) = some r := by rw [if_neg (show ¬ (false = true) by decide)] at H; exact H
                  clear H
                  have H := H1
                  clear H1
                  replace H := Option.bind_eq_some_iff.mp H
                  obtain ⟨t923, A590, H⟩ := H
                  replace H : (if t923 < 0 then (none) else (if t923 = t913 then (some true) else (none))) = some r := H
                  have A59 := Aside0.mk A590
                  clear A590
                  by_cases c60 : t923 < 0
                  · rw [if_pos c60] at H
                    exact absurd H (by simp)
                  · rw [if_neg c60] at H
                    have c60b0 : decide (t923 < 0) = false := decide_eq_false c60
                    clear c60
                    by_cases c61 : t923 = t913
                    · rw [if_pos c61] at H
                      have c61b0 : (t923 == t913) = true := beq_iff_eq.mpr c61
                      have c61b1 : (t923 != t913) = false := bne_eq_false_iff_eq.mpr c61
                      clear c61
                      obtain rfl := Option.some.inj H
                      have hnb62 := NB911_905.out
                      have hnc62 := NB905_911.out
                      have hnb63 := NB911_921.out
                      have hnc63 := NB921_911.out
                      have hcz64_0 : wc.cell? ⟨gb911, 0, none⟩ = some (.int .i64 t906) := (blk_cell BK911.out 0).trans rfl
                      have hcz64_1 : wc.cell? ⟨gb911, 1, none⟩ = some (.slice Ao15 t914.length co15) := (blk_cell BK911.out 1).trans rfl
                      have hfz64_0 := blk_frozen BK911.out 0
                      have hfz64_1 := blk_frozen BK911.out 1
                      go_wp2_with (first | ((with_reducible refine gate_callee (f := 49) rfl ?_); refine goesL_ (some 67) rfl rfl Try.func49 (by kernel_rfl) rfl #[.agg #[.int .i64 t906, .slice Ao15 t914.length co15], .int .i64 1] rfl (by (try simp only [List.map_toArray, List.map_cons, List.map_nil]); first | done | rfl | (simp only [List.length_drop, List.length_take]; rfl)) ?_; (with_reducible refine (laws_heldBoard.calls kj31 t906 _ _ t914 1 t923 _ ?side1 ?side2 A59.out).mono ?_); (case side1 => repeat (first | exact (Kd.R_reads' HO_912001.out).2.2 | (with_reducible refine Kd.C_alloc ?_ _) | (with_reducible refine Kd.C_drewN ?_ _) | (with_reducible refine Kd.C_drew ?_))); (case side2 => exact (Kd.R_reads' HO_912001.out).2.1); rintro e w65 ⟨rfl, hb⟩; refine ⟨_, rfl, ?_⟩; have n0_ := Aside0.mk (Kd.R_below (by (with_reducible repeat (first | apply Kd.R_alloc | apply Kd.R_drewN | apply Kd.R_drew)); exact HO_906001.out) hb); have n1_ := Aside0.mk (Kd.R_below (by (with_reducible repeat (first | apply Kd.R_alloc | apply Kd.R_drewN | apply Kd.R_drew)); exact HO_912001.out) hb); have n2_ := Aside0.mk (Kd.R_below (by (with_reducible repeat (first | apply Kd.R_alloc | apply Kd.R_drewN | apply Kd.R_drew)); exact HO_922001.out) hb); have n3_ := Aside0.mk (blk_below (g := gb905) (o := .cells #[.int .i64 t900, .slice Ao10 t901.length co10] 27 (0, 0)) (by (with_reducible repeat (first | refine blk_drewN ?_ _ | refine blk_drew ?_ | refine blk_alloc ?_ _)); exact BK905.out) hb); have n4_ := Aside0.mk (blk_below (g := gb911) (o := .cells #[.int .i64 t906, .slice Ao15 t914.length co15] 27 (0, 0)) (by (with_reducible repeat (first | refine blk_drewN ?_ _ | refine blk_drew ?_ | refine blk_alloc ?_ _)); exact BK911.out) hb); have n5_ := Aside0.mk (blk_below (g := gb921) (o := .cells #[.int .i64 t916, .slice Ao43 t917.length co43] 27 (0, 0)) (by (with_reducible repeat (first | refine blk_drewN ?_ _ | refine blk_drew ?_ | refine blk_alloc ?_ _)); exact BK921.out) hb); have n6_ := Aside0.mk (below_step (by repeat (first | (with_reducible first | exact HB.out | apply below_alloc | apply pw_below_drewN | apply below_drew1 | refine below_set ?_ GE905.out | refine below_set ?_ GE911.out | refine below_set ?_ GE921.out) | exact HB.out)) hb); clear HO_906001; clear HO_912001; clear HO_922001; clear BK905; clear BK911; clear BK921; clear HB; have HO_906001 := n0_; have HO_912001 := n1_; have HO_922001 := n2_; have BK905 := n3_; have BK911 := n4_; have BK921 := n5_; have HB := n6_; clear n0_ n1_ n2_ n3_ n4_ n5_ n6_; (try clear hb); (try clear hb2); (try clear hk); (try clear hi)))
                      go_ret
                      exact ⟨by first | rfl | (simp [errW_none, errW_some] <;> rfl) | (simp [*, errW_none, errW_some] <;> rfl), by repeat (first | (with_reducible first | exact HB.out | apply below_alloc | apply pw_below_drewN | apply below_drew1 | refine below_set ?_ GE905.out | refine below_set ?_ GE911.out | refine below_set ?_ GE921.out) | exact HB.out)⟩
                    · rw [if_neg c61] at H
                      exact absurd H (by simp)
          · rw [if_neg c30] at H
            exact absurd H (by simp)

/-- THE ONE PURE STATEMENT of laws_FnExactGridBoard: yours. -/
def laws_FnExactGridBoard.Pure : Prop := ∀ (a0 : Int) (a1 : Int) (a2 : Int), (Lit.int .i64 a0).wf = true → (Lit.int .i64 a1).wf = true → (Lit.int .i64 a2).wf = true → ∃ k, laws_FnExactGridBoard.f k a0 a1 a2 = some true
theorem laws_FnExactGridBoard.walk (P : laws_FnExactGridBoard.Pure) (a0 : Int) (a1 : Int) (a2 : Int) (w : World) (w0 : (Lit.int .i64 a0).wf = true) (w1 : (Lit.int .i64 a1).wf = true) (w2 : (Lit.int .i64 a2).wf = true) :
    Calls Try.prog 14 #[.int .i64 a0, .int .i64 a1, .int .i64 a2] w fun e w' => e = .returned (.bool true) ∧ Below w.heap.size w w' := by
  obtain ⟨k, h⟩ := P a0 a1 a2 w0 w1 w2
  refine (laws_FnExactGridBoard.calls k a0 a1 a2 true w h).mono ?_
  rintro e w' ⟨rfl, hd⟩
  exact ⟨rfl, hd⟩

end Go.Proofs.Ytjeiifiacjhfoaa.Q
