-- Written by a program of this session (wip/tools/px.sh) over the seat's translation; Lean checks it.
import Derived.Test.YtelfllbjcpndfaaQ0
import Derived.Test.YtelfllbjcpndfaaSq
import Derived.Test.YtelfllbjcpndfaaQ1
import Derived.Test.YtelfllbjcpndfaaQ2
import Derived.Test.YtelfllbjcpndfaaOutDraw3
import Derived.Test.YtelfllbjcpndfaaOutFree
import Derived.Test.YtelfllbjcpndfaaOutWith
import Derived.Test.YtelfllbjcpndfaaSpecBehind
namespace Go.Proofs.Ytelfllbjcpndfaa.Q
open Go.RowKit Go.Proofs.YtelfllbjcpndfaaW.PrintWords Go.Proofs.YtelfllbjcpndfaaW.PrintLast Go.Proofs.YtelfllbjcpndfaaW.PrintMore
attribute [local go_sem] max2_int min2_int max_two min_two max_three min_three max_four min_four   -- for this text's walks alone
set_option linter.unusedVariables false
set_option linter.unusedSimpArgs false

/-! ### spec_l03Spoil: function 20 -/
def spec_l03Spoil.f (k : Nat) (l0 : List Int) : Option (Int × Int × Int) := (spec_l01From.f k l0).bind fun bt139 => ((spec_l03Draw.f bt139.1 bt139.2.1 bt139.2.2).bind fun bt143 => ((spec_l03Bad.f bt139.1 bt143.2.2.2.1 bt143.2.2.2.2 bt143.1 bt143.2.1 bt143.2.2.1).bind fun bt148 => (some (bt148.1, bt148.2.1, bt148.2.2.1))))
theorem spec_l03Spoil.mono : ∀ a0 k, LeO (spec_l03Spoil.f k a0) (spec_l03Spoil.f (k + 1) a0) := by
  intro a0 k
  unfold spec_l03Spoil.f
  repeat' first
      | (with_reducible exact spec_l01From.mono _ _)
      | (with_reducible exact LeO.refl _)
      | (with_reducible exact LeO.none _)
      | (with_reducible refine LeO.ite ?_ ?_)
      | (with_reducible refine LeO.bind ?_ (fun _ => ?_))
      | exact spec_l01From.mono _ _
      | exact LeO.none _
      | refine LeO.ite ?_ ?_
      | refine LeO.bind ?_ (fun _ => ?_)
set_option maxHeartbeats 8000000 in
set_option maxRecDepth 100000 in
theorem spec_l03Spoil.calls (k : Nat) (A0 : Option Addr) (c0 : Nat) (l0 : List Int) (r1 : Int) (r2 : Int) (r3 : Int) (w : World) (hr0 : Kd.C (Kd.int .u8) w A0 l0.length l0) (hc0 : l0.length ≤ c0) (h : spec_l03Spoil.f k l0 = some (r1, r2, r3)) :
    Calls Try.prog 20 #[.slice A0 l0.length c0] w fun e w' => e = .returned (.agg #[.int .i64 r1, .int .i64 r2, .int .i64 r3]) ∧ Below w.heap.size w w' := by
  have hu25 := Try.underlying25
  have HR0 := Aside0.mk hr0
  have HC0 := Aside0.mk hc0
  clear hr0 hc0
  have HB := Aside0.mk (Below.refl w.heap.size w)
  have H : ((spec_l01From.f k l0).bind fun bt139 => ((spec_l03Draw.f bt139.1 bt139.2.1 bt139.2.2).bind fun bt143 => ((spec_l03Bad.f bt139.1 bt143.2.2.2.1 bt143.2.2.2.2 bt143.1 bt143.2.1 bt143.2.2.1).bind fun bt148 => (some (bt148.1, bt148.2.1, bt148.2.2.1))))) = some (r1, r2, r3) := h
  clear h
  obtain ⟨⟨t139, t140, t141⟩, A2, H⟩ := zb H; (try dsimp only at H)
  obtain ⟨⟨t143, t144, t145, t146, t147⟩, A3, H⟩ := zb H; (try dsimp only at H)
  obtain ⟨⟨t148, t149, t150, t151, t152⟩, A4, H⟩ := zb H; (try dsimp only at H)
  simp only [Option.some.injEq, Prod.mk.injEq] at H
  obtain ⟨rfl, rfl, rfl⟩ := H
  go_enter Try.func20, Try.ntmps20
  go_wp2_with (first | ((with_reducible refine gate_dst (N := 2) rfl ?_); refine zX 2 #[.int .i64 0, .int .i64 0, .int .i64 0] 25 ?_; intro gb138 hg w5 hbox hb; refine zA4 (below_step (zH HB.out) hb) (hbox) ((zS hg (below_size (zH HB.out)) : w.heap.size ≤ gb138)) ((zS hg (below_size (zH HB.out)) : w.heap.size ≤ gb138)) ?_; clear HB; intro HB BK138 GW138 GE138; clear hb hbox hg) | ((with_reducible refine gate_callee (f := 43) rfl ?_); refine goesL_ (some 5) rfl rfl Try.func43 (by kernel_rfl) rfl #[.slice A0 l0.length c0] rfl zM ?_; (with_reducible refine (spec_l01From.calls k _ _ l0 t139 t140 t141 w _ ?side1 ?side2 ?side3 A2.out).mono ?_); (case side1 => exact zH1 HB.out GE138.out); (case side2 => exact HR0.out); (case side3 => exact HC0.out); rintro e w6 ⟨g142, rfl, hi, hb, hb2⟩; refine ⟨_, rfl, ?_⟩; refine zA5 (blk_below (g := gb138) (o := .cells #[.int .i64 0, .int .i64 0, .int .i64 0] 25 (0, 0)) (zB BK138.out) hb2) (hb) (hi) (IsS89.ne_blk hi (blk_below (g := gb138) (o := .cells #[.int .i64 0, .int .i64 0, .int .i64 0] 25 (0, 0)) (zB BK138.out) hb2) (by decide)) (Ne.symm (IsS89.ne_blk hi (blk_below (g := gb138) (o := .cells #[.int .i64 0, .int .i64 0, .int .i64 0] 25 (0, 0)) (zB BK138.out) hb2) (by decide))) ?_; clear BK138 HB; intro BK138 HB HI142 NB142_138 NB138_142; (try clear hb); (try clear hb2); (try clear hk); (try clear hi)) | ((with_reducible refine gate_callee (f := 45) rfl ?_); refine goesL_ (some 8) rfl rfl Try.func45 (by kernel_rfl) rfl #[.pointer (some ⟨g142, 0, none⟩)] rfl zM ?_; (with_reducible refine (spec_l03Draw.calls g142 t139 t140 t141 t143 t144 t145 t146 t147 w _ ?side1 ?side2 A3.out).mono ?_); (case side1 => repeat (first | (with_reducible first | exact HI142.out | apply IsS89.alloc | apply IsS89.drewN | apply IsS89.drew | apply IsS89.set_1 | apply IsS89.set_2 | refine IsS89.far ?_ NB142_138.out _) | exact HI142.out)); (case side2 => repeat (first | (with_reducible first | exact HB.out | apply below_alloc | apply pw_below_drewN | apply below_drew1 | refine below_set ?_ (IsS89.ge HI142.out) | refine below_set ?_ GE138.out) | exact HB.out)); rintro e w7 ⟨rfl, hi, hb, hk⟩; refine ⟨_, rfl, ?_⟩; refine zA3 (KeepBut.blk hk (g' := gb138) (o := .cells #[.int .i64 0, .int .i64 0, .int .i64 0] 25 (0, 0)) (zB BK138.out) NB138_142.out (by simp)) (hb) (hi) ?_; clear BK138 HB HI142; intro BK138 HB HI142; (try clear hb); (try clear hb2); (try clear hk); (try clear hi)) | ((with_reducible refine gate_callee (f := 44) rfl ?_); refine goesL_ (some 9) rfl rfl Try.func44 (by kernel_rfl) rfl #[.pointer (some ⟨g142, 0, none⟩), .agg #[.int .i64 t143, .int .i64 t144, .int .i64 t145]] rfl zM ?_; (with_reducible refine (spec_l03Bad.calls g142 t139 t146 t147 t143 t144 t145 t148 t149 t150 t151 t152 w _ ?side1 ?side2 A4.out).mono ?_); (case side1 => repeat (first | (with_reducible first | exact HI142.out | apply IsS89.alloc | apply IsS89.drewN | apply IsS89.drew | apply IsS89.set_1 | apply IsS89.set_2 | refine IsS89.far ?_ NB142_138.out _) | exact HI142.out)); (case side2 => repeat (first | (with_reducible first | exact HB.out | apply below_alloc | apply pw_below_drewN | apply below_drew1 | refine below_set ?_ (IsS89.ge HI142.out) | refine below_set ?_ GE138.out) | exact HB.out)); rintro e w8 ⟨rfl, hi, hb, hk⟩; refine ⟨_, rfl, ?_⟩; refine zA3 (KeepBut.blk hk (g' := gb138) (o := .cells #[.int .i64 0, .int .i64 0, .int .i64 0] 25 (0, 0)) (zB BK138.out) NB138_142.out (by simp)) (hb) (hi) ?_; clear BK138 HB HI142; intro BK138 HB HI142; (try clear hb); (try clear hb2); (try clear hk); (try clear hi); have hnb9 := NB138_142.out; have hnc9 := NB142_138.out; obtain ⟨hcz10_0, hcz10_1, hcz10_2⟩ := zc3 BK138; obtain ⟨hfz10_0, hfz10_1, hfz10_2⟩ := zf3 BK138))
  refine bodyPost_ret (results_cell_row rfl _ _ gb138 25 #[.int .i64 t148, .int .i64 t149, .int .i64 t150] (0, 0) _ rfl (by (with_reducible repeat (first | refine blk_drewN ?_ _ | refine blk_drew ?_ | refine blk_alloc ?_ _)); refine blk_put (cs := #[.int .i64 t148, .int .i64 t149, .int .i64 0]) ?_ 2 _ rfl; (with_reducible repeat (first | refine blk_drewN ?_ _ | refine blk_drew ?_ | refine blk_alloc ?_ _)); refine blk_put (cs := #[.int .i64 t148, .int .i64 0, .int .i64 0]) ?_ 1 _ rfl; (with_reducible repeat (first | refine blk_drewN ?_ _ | refine blk_drew ?_ | refine blk_alloc ?_ _)); refine blk_put (cs := #[.int .i64 0, .int .i64 0, .int .i64 0]) ?_ 0 _ rfl; (with_reducible repeat (first | refine blk_drewN ?_ _ | refine blk_drew ?_ | refine blk_alloc ?_ _)); exact BK138.out) Try.underlying25 rfl (by kernel_rfl)) rfl ?_
  exact ⟨zE, by repeat (first | (with_reducible first | exact HB.out | apply below_alloc | apply pw_below_drewN | apply below_drew1 | refine below_set ?_ (IsS89.ge HI142.out) | refine below_set ?_ GE138.out) | exact HB.out)⟩

/-! ### spec_DrawNetScore: function 5 -/
def spec_DrawNetScore.f (k : Nat) (l0 : List Int) : Option (Int × Int × Int) := (spec_l03Spoil.f k l0).bind fun bt154 => (some (bt154.1, bt154.2.1, bt154.2.2))
theorem spec_DrawNetScore.mono : ∀ a0 k, LeO (spec_DrawNetScore.f k a0) (spec_DrawNetScore.f (k + 1) a0) := by
  intro a0 k
  unfold spec_DrawNetScore.f
  repeat' first
      | (with_reducible exact spec_l03Spoil.mono _ _)
      | (with_reducible exact LeO.refl _)
      | (with_reducible exact LeO.none _)
      | (with_reducible refine LeO.ite ?_ ?_)
      | (with_reducible refine LeO.bind ?_ (fun _ => ?_))
      | exact spec_l03Spoil.mono _ _
      | exact LeO.none _
      | refine LeO.ite ?_ ?_
      | refine LeO.bind ?_ (fun _ => ?_)
set_option maxHeartbeats 8000000 in
set_option maxRecDepth 100000 in
theorem spec_DrawNetScore.calls (k : Nat) (A0 : Option Addr) (c0 : Nat) (l0 : List Int) (r1 : Int) (r2 : Int) (r3 : Int) (w : World) (hr0 : Kd.C (Kd.int .u8) w A0 l0.length l0) (hc0 : l0.length ≤ c0) (h : spec_DrawNetScore.f k l0 = some (r1, r2, r3)) :
    Calls Try.prog 5 #[.slice A0 l0.length c0] w fun e w' => e = .returned (.agg #[.int .i64 r1, .int .i64 r2, .int .i64 r3]) ∧ Below w.heap.size w w' := by
  have hu25 := Try.underlying25
  have HR0 := Aside0.mk hr0
  have HC0 := Aside0.mk hc0
  clear hr0 hc0
  have HB := Aside0.mk (Below.refl w.heap.size w)
  have H : ((spec_l03Spoil.f k l0).bind fun bt154 => (some (bt154.1, bt154.2.1, bt154.2.2))) = some (r1, r2, r3) := h
  clear h
  obtain ⟨⟨t154, t155, t156⟩, A2, H⟩ := zb H; (try dsimp only at H)
  simp only [Option.some.injEq, Prod.mk.injEq] at H
  obtain ⟨rfl, rfl, rfl⟩ := H
  go_enter Try.func5, Try.ntmps5
  go_wp2_with (first | ((with_reducible refine gate_dst (N := 2) rfl ?_); refine zX 2 #[.int .i64 0, .int .i64 0, .int .i64 0] 25 ?_; intro gb153 hg w3 hbox hb; refine zA4 (below_step (zH HB.out) hb) (hbox) ((zS hg (below_size (zH HB.out)) : w.heap.size ≤ gb153)) ((zS hg (below_size (zH HB.out)) : w.heap.size ≤ gb153)) ?_; clear HB; intro HB BK153 GW153 GE153; clear hb hbox hg) | ((with_reducible refine gate_callee (f := 20) rfl ?_); refine goesL_ (some 4) rfl rfl Try.func20 (by kernel_rfl) rfl #[.slice A0 l0.length c0] rfl zM ?_; (with_reducible refine (spec_l03Spoil.calls k _ _ l0 t154 t155 t156 _ ?side1 ?side2 A2.out).mono ?_); (case side1 => repeat (first | exact (Kd.C_below HR0.out HB.out) | (with_reducible refine Kd.C_alloc ?_ _) | (with_reducible refine Kd.C_drewN ?_ _) | (with_reducible refine Kd.C_drew ?_))); (case side2 => exact HC0.out); rintro e w4 ⟨rfl, hb⟩; refine ⟨_, rfl, ?_⟩; refine zA2 (blk_below (g := gb153) (o := .cells #[.int .i64 0, .int .i64 0, .int .i64 0] 25 (0, 0)) (zB BK153.out) hb) (below_step (zH1 HB.out GE153.out) hb) ?_; clear BK153 HB; intro BK153 HB; (try clear hb); (try clear hb2); (try clear hk); (try clear hi); obtain ⟨hcz5_0, hcz5_1, hcz5_2⟩ := zc3 BK153; obtain ⟨hfz5_0, hfz5_1, hfz5_2⟩ := zf3 BK153))
  refine bodyPost_ret (results_cell_row rfl _ _ gb153 25 #[.int .i64 t154, .int .i64 t155, .int .i64 t156] (0, 0) _ rfl (by (with_reducible repeat (first | refine blk_drewN ?_ _ | refine blk_drew ?_ | refine blk_alloc ?_ _)); refine blk_put (cs := #[.int .i64 t154, .int .i64 t155, .int .i64 0]) ?_ 2 _ rfl; (with_reducible repeat (first | refine blk_drewN ?_ _ | refine blk_drew ?_ | refine blk_alloc ?_ _)); refine blk_put (cs := #[.int .i64 t154, .int .i64 0, .int .i64 0]) ?_ 1 _ rfl; (with_reducible repeat (first | refine blk_drewN ?_ _ | refine blk_drew ?_ | refine blk_alloc ?_ _)); refine blk_put (cs := #[.int .i64 0, .int .i64 0, .int .i64 0]) ?_ 0 _ rfl; (with_reducible repeat (first | refine blk_drewN ?_ _ | refine blk_drew ?_ | refine blk_alloc ?_ _)); exact BK153.out) Try.underlying25 rfl (by kernel_rfl)) rfl ?_
  exact ⟨zE, zH1 HB.out GE153.out⟩

/-! ### impl_Boxes_add: function 29 -/
def impl_Boxes_add.f (k : Nat) (a0_0 : Int) (a0_1 : Int) (a0_2 : Int) (a1 : Int) : Option (Int × Int × Int × Int) := if 0 ≤ a1 then ((impl_Boxes_with.f k a0_0 a0_1 (Go.bits .or .i64 a0_2 (shl .i64 1 a1)) 4).bind fun t187 => ((impl_size_int64_56.f t187).bind fun t190 => ((impl_Boxes_with.f k a0_0 a0_1 a0_2 4).bind fun t191 => ((impl_size_int64_56.f t191).bind fun t194 => (some (a0_0, a0_1, Go.bits .or .i64 a0_2 (shl .i64 1 a1), wrap64 (t190 - t194))))))) else (none)
theorem impl_Boxes_add.mono : ∀ a0 a1 a2 a3 k, LeO (impl_Boxes_add.f k a0 a1 a2 a3) (impl_Boxes_add.f (k + 1) a0 a1 a2 a3) := by
  intro a0 a1 a2 a3 k
  unfold impl_Boxes_add.f
  repeat' first
      | (with_reducible exact impl_Boxes_with.mono _ _ _ _ _)
      | (with_reducible exact LeO.refl _)
      | (with_reducible exact LeO.none _)
      | (with_reducible refine LeO.ite ?_ ?_)
      | (with_reducible refine LeO.bind ?_ (fun _ => ?_))
      | exact impl_Boxes_with.mono _ _ _ _ _
      | exact LeO.none _
      | refine LeO.ite ?_ ?_
      | refine LeO.bind ?_ (fun _ => ?_)
def impl_Boxes_add.T1 : Bool × List (List Nat × List Nat) := (true, [([], []), ([0], [0]), ([], []), ([2], [2]), ([], []), ([4], [4]), ([], []), ([6], [6]), ([5, 7], [5, 7]), ([1, 3, 8], [1, 3, 8]), ([], []), ([10, 9, 0, 1, 2, 3, 4, 5, 6, 7, 8, 9, 10], [9, 10])])
def impl_Boxes_add.B1 : List Nat := [0, 1, 0, 4, 0, 16, 0, 64, 240, 511, 0, 2047]
theorem impl_Boxes_add.tab1 : rtab .any (opsOf Try.f29 1) = impl_Boxes_add.T1 := by kernel_rfl
theorem impl_Boxes_add.bits1 : waitsOk impl_Boxes_add.T1.2 impl_Boxes_add.B1 = true := by kernel_rfl
def impl_Boxes_add.T2 : Bool × List (List Nat × List Nat) := (true, [([], []), ([], []), ([1], [1]), ([2, 2], [2]), ([], []), ([4, 3], [4]), ([5, 5], [5]), ([3, 6], [3, 6]), ([0, 6, 0], [0]), ([7, 8, 0, 1, 2, 3, 4, 5, 6, 7, 8], [7])])
def impl_Boxes_add.B2 : List Nat := [0, 0, 2, 6, 0, 30, 62, 126, 127, 511]
theorem impl_Boxes_add.tab2 : rtab .any (opsOf Try.f29 2) = impl_Boxes_add.T2 := by kernel_rfl
theorem impl_Boxes_add.bits2 : waitsOk impl_Boxes_add.T2.2 impl_Boxes_add.B2 = true := by kernel_rfl
set_option maxHeartbeats 8000000 in
set_option maxRecDepth 100000 in
theorem impl_Boxes_add.calls (k : Nat) (a0_0 : Int) (a0_1 : Int) (a0_2 : Int) (a1 : Int) (r1 : Int) (r2 : Int) (r3 : Int) (r4 : Int) (w : World) (h : impl_Boxes_add.f k a0_0 a0_1 a0_2 a1 = some (r1, r2, r3, r4)) :
    Calls Try.prog 29 #[.agg #[.int .i64 a0_0, .int .i64 a0_1, .int .i64 a0_2], .int .i64 a1] w fun e w' => e = .returned (.tuple #[.agg #[.int .i64 r1, .int .i64 r2, .int .i64 r3], .int .i64 r4]) ∧ Below w.heap.size w w' := by
  have hu25 := Try.underlying25
  have HB := Aside0.mk (Below.refl w.heap.size w)
  have H : (if 0 ≤ a1 then ((impl_Boxes_with.f k a0_0 a0_1 (Go.bits .or .i64 a0_2 (shl .i64 1 a1)) 4).bind fun t187 => ((impl_size_int64_56.f t187).bind fun t190 => ((impl_Boxes_with.f k a0_0 a0_1 a0_2 4).bind fun t191 => ((impl_size_int64_56.f t191).bind fun t194 => (some (a0_0, a0_1, Go.bits .or .i64 a0_2 (shl .i64 1 a1), wrap64 (t190 - t194))))))) else (none)) = some (r1, r2, r3, r4) := h
  clear h
  by_cases c3 : 0 ≤ a1
  · rw [if_pos c3] at H
    have c3b0 := eq_true c3
    have c3b1 := decide_eq_true c3
    clear c3
    obtain ⟨ji4, hji4⟩ := zj (shl .i64 1 a1)
    (first | rw [hji4] at H | simp only [hji4] at H)
    have hji4_ : (IntKind.i64.wrap (1 * 2 ^ min a1.toNat 64)) = ji4 := hji4
    have hji4z : a1 ≤ 64 → (IntKind.i64.wrap (1 * 2 ^ a1.toNat)) = ji4 := shl_small hji4
    have hji4u : (IntKind.i64.wrap (2 ^ min a1.toNat 64)) = ji4 := by have h_ := hji4_; rw [Int.one_mul] at h_; exact h_
    have hji4v : a1 ≤ 64 → (IntKind.i64.wrap (2 ^ a1.toNat)) = ji4 := fun hle_ => by have h_ := hji4z hle_; rw [Int.one_mul] at h_; exact h_
    have hji4y : (wrap64 (1 * 2 ^ min a1.toNat 64)) = ji4 := (i64_w _).symm.trans hji4_
    have hji4x : a1 ≤ 64 → (wrap64 (1 * 2 ^ a1.toNat)) = ji4 := fun h_ => (i64_w _).symm.trans (hji4z h_)
    obtain ⟨t187, A5, H⟩ := zb H
    obtain ⟨t190, A6, H⟩ := zb H
    obtain ⟨t191, A7, H⟩ := zb H
    obtain ⟨t194, A8, H⟩ := zb H
    simp only [Option.some.injEq, Prod.mk.injEq] at H
    obtain ⟨rfl, rfl, rfl, rfl⟩ := H
    go_enter Try.func29, Try.ntmps29
    try go_wp2_with (first | ((with_reducible refine gate_dst (N := 2) rfl ?_); refine zX 2 #[.int .i64 a0_0, .int .i64 a0_1, .int .i64 a0_2] 25 ?_; intro gb184 hg w9 hbox hb; refine zA4 (below_step (zH HB.out) hb) (hbox) ((zS hg (below_size (zH HB.out)) : w.heap.size ≤ gb184)) ((zS hg (below_size (zH HB.out)) : w.heap.size ≤ gb184)) ?_; clear HB; intro HB BK184 GW184 GE184; clear hb hbox hg) | ((with_reducible refine gate_dst (N := 4) rfl ?_); refine zX 4 #[.int .i64 0, .int .i64 0, .int .i64 0] 25 ?_; intro gb185 hg w10 hbox hb; refine zA7 (blk_below (g := gb184) (o := .cells #[.int .i64 a0_0, .int .i64 a0_1, .int .i64 a0_2] 25 (0, 0)) (zB BK184.out) hb) (below_step (zH1 HB.out GE184.out) hb) (hbox) ((zS hg (below_size (zH1 HB.out GE184.out)) : w.heap.size ≤ gb185)) ((zS hg (below_size (zH1 HB.out GE184.out)) : w.heap.size ≤ gb185)) ((zl hg (blk_lt (g := gb184) (o := .cells #[.int .i64 a0_0, .int .i64 a0_1, .int .i64 a0_2] 25 (0, 0)) (zB BK184.out)) : gb184 ≠ gb185)) ((zg hg (blk_lt (g := gb184) (o := .cells #[.int .i64 a0_0, .int .i64 a0_1, .int .i64 a0_2] 25 (0, 0)) (zB BK184.out)) : gb185 ≠ gb184)) ?_; clear BK184 HB; intro BK184 HB BK185 GW185 GE185 NB184_185 NB185_184; clear hb hbox hg))
    refine zA3 (blk_drew BK184.out) (blk_drew BK185.out) (below_drew1 HB.out) ?_
    clear BK184 BK185 HB
    intro BK184 BK185 HB
    refine start_ (n := 12) (S := fun w' => w'.cell? ⟨gb184, 0, none⟩ = some (.int .i64 a0_0) ∧ w'.cell? ⟨gb184, 1, none⟩ = some (.int .i64 a0_1) ∧ w'.cell? ⟨gb184, 2, none⟩ = some (.int .i64 a0_2)) (ds := []) #[false, false, false, false, false, false, false, false, false, false, false, false] (by kernel_rfl) rfl rfl ⟨(blk_cell BK184.out 0).trans rfl, (blk_cell BK184.out 1).trans rfl, (blk_cell BK184.out 2).trans rfl⟩ (fun hHeld => ?_); refine with_tabW impl_Boxes_add.tab1 impl_Boxes_add.bits1 (fun HT_ HW_ => ?_)
    generalize w10.drew = w11 at BK184 BK185 HB hHeld ⊢
    refine zP HT_ 0 (some 7) rfl rfl ?_
    refine zP HT_ 2 (some 9) rfl rfl ?_
    refine zP HT_ 4 (some 11) rfl rfl ?_
    refine zP HT_ 6 (some 13) rfl rfl ?_
    refine zP HT_ 7 (some 14) rfl rfl ?_
    refine zT HT_ HW_ hHeld 1 (some 8) rfl rfl ?_
    refine zT HT_ HW_ hHeld 3 (some 10) rfl rfl ?_
    refine zT HT_ HW_ hHeld 5 (some 12) rfl rfl ?_
    refine zP HT_ 8 (some 15) rfl rfl ?_
    refine zP HT_ 9 (some 16) rfl rfl ?_
    refine one_ (i := 10) (N := some 6) #[true, true, true, true, true, true, true, true, true, true, true, false] rfl rfl (one_of HT_.out (by kernel_rfl)) (by decide) (fun K hK => ?_)
    refine box_step ?hg (N := 6) ?hd (cs := #[.int .i64 0, .int .i64 0, .int .i64 0]) (t := 25) ?hr ?_; (case hd => rfl); (case hg => rfl); (case hr => first | (go_simp; done) | (go_simp; rfl))
    intro gb186 hg w12 hbox hb
    refine zA10 (blk_below (g := gb184) (o := .cells #[.int .i64 a0_0, .int .i64 a0_1, .int .i64 a0_2] 25 (0, 0)) (zB BK184.out) hb) (blk_below (g := gb185) (o := .cells #[.int .i64 0, .int .i64 0, .int .i64 0] 25 (0, 0)) (zB BK185.out) hb) (below_step (zH2 HB.out GE184.out GE185.out) hb) (hbox) ((zS hg (below_size (zH2 HB.out GE184.out GE185.out)) : w.heap.size ≤ gb186)) ((zS hg (below_size (zH2 HB.out GE184.out GE185.out)) : w.heap.size ≤ gb186)) ((zl hg (blk_lt (g := gb184) (o := .cells #[.int .i64 a0_0, .int .i64 a0_1, .int .i64 a0_2] 25 (0, 0)) (zB BK184.out)) : gb184 ≠ gb186)) ((zg hg (blk_lt (g := gb184) (o := .cells #[.int .i64 a0_0, .int .i64 a0_1, .int .i64 a0_2] 25 (0, 0)) (zB BK184.out)) : gb186 ≠ gb184)) ((zl hg (blk_lt (g := gb185) (o := .cells #[.int .i64 0, .int .i64 0, .int .i64 0] 25 (0, 0)) (zB BK185.out)) : gb185 ≠ gb186)) ((zg hg (blk_lt (g := gb185) (o := .cells #[.int .i64 0, .int .i64 0, .int .i64 0] 25 (0, 0)) (zB BK185.out)) : gb186 ≠ gb185)) ?_
    clear BK184 BK185 HB
    intro BK184 BK185 HB BK186 GW186 GE186 NB184_186 NB186_184 NB185_186 NB186_185
    clear hb hbox hg
    refine hK.out _ _ ⟨(blk_cell BK184.out 0).trans rfl, (blk_cell BK184.out 1).trans rfl, (blk_cell BK184.out 2).trans rfl⟩ (fun hHeld => ?_)
    clear hK K
    refine zW (some 6) ?_
    refine one_ (i := 11) (N := none) #[true, true, true, true, true, true, true, true, true, true, true, true] rfl rfl (one_of HT_.out (by kernel_rfl)) (by decide) (fun K hK => ?_)
    have hs13 : w12.cell? ⟨gb186, 0, none⟩ = some (.int .i64 0) := (blk_cell BK186.out 0).trans rfl
    have hfs13 := blk_frozen BK186.out 0
    have hns13_0 := NB184_186.out
    have hns13_1 := NB185_186.out
    have hms13_0 := NB186_184.out
    have hms13_1 := NB186_185.out
    have hs14 : w12.cell? ⟨gb186, 1, none⟩ = some (.int .i64 0) := (blk_cell BK186.out 1).trans rfl
    have hfs14 := blk_frozen BK186.out 1
    have hns14_0 := NB184_186.out
    have hns14_1 := NB185_186.out
    have hms14_0 := NB186_184.out
    have hms14_1 := NB186_185.out
    have hs15 : w12.cell? ⟨gb186, 2, none⟩ = some (.int .i64 0) := (blk_cell BK186.out 2).trans rfl
    have hfs15 := blk_frozen BK186.out 2
    have hns15_0 := NB184_186.out
    have hns15_1 := NB185_186.out
    have hms15_0 := NB186_184.out
    have hms15_1 := NB186_185.out
    refine skip_ (w1 := ?_) (by rfl) rfl ?_ ?_
    rotate_left
    · go_simp
      rfl
    refine hK.out _ _ ⟨((cell_far (p := ⟨gb186, _, none⟩) NB184_186.out _).trans (((cell_far (p := ⟨gb186, _, none⟩) NB184_186.out _).trans (((cell_far (p := ⟨gb186, _, none⟩) NB184_186.out _).trans (hHeld.1)))))), ((cell_far (p := ⟨gb186, _, none⟩) NB184_186.out _).trans (((cell_far (p := ⟨gb186, _, none⟩) NB184_186.out _).trans (((cell_far (p := ⟨gb186, _, none⟩) NB184_186.out _).trans (hHeld.2.1)))))), ((cell_far (p := ⟨gb186, _, none⟩) NB184_186.out _).trans (((cell_far (p := ⟨gb186, _, none⟩) NB184_186.out _).trans (((cell_far (p := ⟨gb186, _, none⟩) NB184_186.out _).trans (hHeld.2.2))))))⟩ (fun hHeld => ?_)
    clear hK K
    refine done_ (done_of HT_.out (by kernel_rfl)) ?_
    try go_wp2
    have n0_ : Aside0 ((((w12.setCell ⟨gb186, 0, none⟩ (.int .i64 a0_0)).setCell ⟨gb186, 1, none⟩ (.int .i64 a0_1)).setCell ⟨gb186, 2, none⟩ (.int .i64 (Go.bits .or .i64 a0_2 (ji4)))).heap[gb184]? = some (.cells #[.int .i64 a0_0, .int .i64 a0_1, .int .i64 a0_2] 25 (0, 0))) := ⟨by (with_reducible repeat (first | refine blk_drewN ?_ _ | refine blk_drew ?_ | refine blk_alloc ?_ _)); refine blk_far ?_ NB184_186.out _; (with_reducible repeat (first | refine blk_drewN ?_ _ | refine blk_drew ?_ | refine blk_alloc ?_ _)); refine blk_far ?_ NB184_186.out _; (with_reducible repeat (first | refine blk_drewN ?_ _ | refine blk_drew ?_ | refine blk_alloc ?_ _)); refine blk_far ?_ NB184_186.out _; (with_reducible repeat (first | refine blk_drewN ?_ _ | refine blk_drew ?_ | refine blk_alloc ?_ _)); exact BK184.out⟩
    have n1_ : Aside0 ((((w12.setCell ⟨gb186, 0, none⟩ (.int .i64 a0_0)).setCell ⟨gb186, 1, none⟩ (.int .i64 a0_1)).setCell ⟨gb186, 2, none⟩ (.int .i64 (Go.bits .or .i64 a0_2 (ji4)))).heap[gb185]? = some (.cells #[.int .i64 0, .int .i64 0, .int .i64 0] 25 (0, 0))) := ⟨by (with_reducible repeat (first | refine blk_drewN ?_ _ | refine blk_drew ?_ | refine blk_alloc ?_ _)); refine blk_far ?_ NB185_186.out _; (with_reducible repeat (first | refine blk_drewN ?_ _ | refine blk_drew ?_ | refine blk_alloc ?_ _)); refine blk_far ?_ NB185_186.out _; (with_reducible repeat (first | refine blk_drewN ?_ _ | refine blk_drew ?_ | refine blk_alloc ?_ _)); refine blk_far ?_ NB185_186.out _; (with_reducible repeat (first | refine blk_drewN ?_ _ | refine blk_drew ?_ | refine blk_alloc ?_ _)); exact BK185.out⟩
    have n2_ : Aside0 ((((w12.setCell ⟨gb186, 0, none⟩ (.int .i64 a0_0)).setCell ⟨gb186, 1, none⟩ (.int .i64 a0_1)).setCell ⟨gb186, 2, none⟩ (.int .i64 (Go.bits .or .i64 a0_2 (ji4)))).heap[gb186]? = some (.cells #[.int .i64 a0_0, .int .i64 a0_1, .int .i64 (Go.bits .or .i64 a0_2 (ji4))] 25 (0, 0))) := ⟨by (with_reducible repeat (first | refine blk_drewN ?_ _ | refine blk_drew ?_ | refine blk_alloc ?_ _)); refine blk_put (cs := #[.int .i64 a0_0, .int .i64 a0_1, .int .i64 0]) ?_ 2 _ rfl; (with_reducible repeat (first | refine blk_drewN ?_ _ | refine blk_drew ?_ | refine blk_alloc ?_ _)); refine blk_put (cs := #[.int .i64 a0_0, .int .i64 0, .int .i64 0]) ?_ 1 _ rfl; (with_reducible repeat (first | refine blk_drewN ?_ _ | refine blk_drew ?_ | refine blk_alloc ?_ _)); refine blk_put (cs := #[.int .i64 0, .int .i64 0, .int .i64 0]) ?_ 0 _ rfl; (with_reducible repeat (first | refine blk_drewN ?_ _ | refine blk_drew ?_ | refine blk_alloc ?_ _)); exact BK186.out⟩
    have n3_ : Aside0 (Below w.heap.size w (((w12.setCell ⟨gb186, 0, none⟩ (.int .i64 a0_0)).setCell ⟨gb186, 1, none⟩ (.int .i64 a0_1)).setCell ⟨gb186, 2, none⟩ (.int .i64 (Go.bits .or .i64 a0_2 (ji4))))) := ⟨zH3 HB.out GE184.out GE185.out GE186.out⟩
    (try clear BK184)
    (try clear BK185)
    (try clear BK186)
    (try clear HB)
    generalize (((w12.setCell ⟨gb186, 0, none⟩ (.int .i64 a0_0)).setCell ⟨gb186, 1, none⟩ (.int .i64 a0_1)).setCell ⟨gb186, 2, none⟩ (.int .i64 (Go.bits .or .i64 a0_2 (ji4)))) = w16 at n0_ n1_ n2_ n3_ ⊢
    have BK184 := n0_
    have BK185 := n1_
    have BK186 := n2_
    have HB := n3_
    clear n0_ n1_ n2_ n3_
    refine zA4 (blk_drew BK184.out) (blk_drew BK185.out) (blk_drew BK186.out) (below_drew1 HB.out) ?_
    clear BK184 BK185 BK186 HB
    intro BK184 BK185 BK186 HB
    refine start_ (n := 10) (S := fun w' => w'.cell? ⟨gb186, 0, none⟩ = some (.int .i64 a0_0) ∧ w'.cell? ⟨gb186, 1, none⟩ = some (.int .i64 a0_1) ∧ w'.cell? ⟨gb186, 2, none⟩ = some (.int .i64 (Go.bits .or .i64 a0_2 (ji4))) ∧ w'.cell? ⟨gb184, 0, none⟩ = some (.int .i64 a0_0) ∧ w'.cell? ⟨gb184, 1, none⟩ = some (.int .i64 a0_1) ∧ w'.cell? ⟨gb184, 2, none⟩ = some (.int .i64 a0_2)) (ds := []) #[false, false, false, false, false, false, false, false, false, false] (by kernel_rfl) rfl rfl ⟨(blk_cell BK186.out 0).trans rfl, (blk_cell BK186.out 1).trans rfl, (blk_cell BK186.out 2).trans rfl, (blk_cell BK184.out 0).trans rfl, (blk_cell BK184.out 1).trans rfl, (blk_cell BK184.out 2).trans rfl⟩ (fun hHeld => ?_); refine with_tabW impl_Boxes_add.tab2 impl_Boxes_add.bits2 (fun HT_ HW_ => ?_)
    generalize w16.drew = w17 at BK184 BK185 BK186 HB hHeld ⊢
    refine zT HT_ HW_ hHeld 0 (some 17) rfl rfl ?_
    refine zT HT_ HW_ hHeld 1 (some 18) rfl rfl ?_
    refine zT HT_ HW_ hHeld 4 (some 21) rfl rfl ?_
    refine one_ (i := 2) (N := some 19) #[true, true, true, false, true, false, false, false, false, false] rfl rfl (one_of HT_.out (by kernel_rfl)) (by decide) (fun K hK => ?_)
    refine goes_ Try.func57 (by kernel_rfl) rfl #[.agg #[.int .i64 a0_0, .int .i64 a0_1, .int .i64 (Go.bits .or .i64 a0_2 (ji4))], .int .i64 4] (by rfl) rfl rfl (zM1 hji4) ?_
    with_reducible refine (impl_Boxes_with.calls k a0_0 a0_1 (Go.bits .or .i64 a0_2 (ji4)) 4 t187 _ A5.out).mono ?_
    rintro e w18 ⟨v188, rfl, ho0, hb⟩
    refine ⟨_, rfl, ?_⟩
    refine zA5 (Kd.R_lower ho0 (below_size (zH3 HB.out GE184.out GE185.out GE186.out))) (blk_below (g := gb184) (o := .cells #[.int .i64 a0_0, .int .i64 a0_1, .int .i64 a0_2] 25 (0, 0)) (zB BK184.out) hb) (blk_below (g := gb185) (o := .cells #[.int .i64 0, .int .i64 0, .int .i64 0] 25 (0, 0)) (zB BK185.out) hb) (blk_below (g := gb186) (o := .cells #[.int .i64 a0_0, .int .i64 a0_1, .int .i64 (Go.bits .or .i64 a0_2 (ji4))] 25 (0, 0)) (zB BK186.out) hb) (below_step (zH3 HB.out GE184.out GE185.out GE186.out) hb) ?_
    clear BK184 BK185 BK186 HB
    intro HO189 BK184 BK185 BK186 HB
    (try clear hb)
    (try clear hb2)
    (try clear hk)
    (try clear hi)
    (try clear ho0)
    obtain ⟨Ao19, co19, eo19⟩ := Kd.R_slice HO189.out
    (first | subst eo19 | (injection eo19 with f1_ f2_ f3_; have f4_ := f1_.symm; have f5_ := f3_.symm; clear f1_ f2_ f3_; subst f4_; subst f5_))
    refine hK.out _ _ ⟨(blk_cell BK186.out 0).trans rfl, (blk_cell BK186.out 1).trans rfl, (blk_cell BK186.out 2).trans rfl, (blk_cell BK184.out 0).trans rfl, (blk_cell BK184.out 1).trans rfl, (blk_cell BK184.out 2).trans rfl⟩ (fun hHeld => ?_)
    clear hK K
    refine zW (some 19) ?_
    refine one_ (i := 3) (N := some 20) #[true, true, true, true, true, false, false, false, false, false] rfl rfl (one_of HT_.out (by kernel_rfl)) (by decide) (fun K hK => ?_)
    refine goes_ Try.func56 (by kernel_rfl) rfl #[.slice Ao19 t187.length co19] (by rfl) rfl rfl zM ?_
    with_reducible refine (impl_size_int64_56.calls _ _ t187 t190 _ ?side1 ?side2 A6.out).mono ?_
    (case side1 => repeat (first | exact (Kd.R_reads' HO189.out).2.2 | (with_reducible refine Kd.C_alloc ?_ _) | (with_reducible refine Kd.C_drewN ?_ _) | (with_reducible refine Kd.C_drew ?_)))
    (case side2 => exact (Kd.R_reads' HO189.out).2.1)
    rintro e w' ⟨rfl, ⟨nd, rfl⟩⟩
    refine ⟨_, rfl, ?_⟩
    refine hK.out _ _ ⟨(blk_cell BK186.out 0).trans rfl, (blk_cell BK186.out 1).trans rfl, (blk_cell BK186.out 2).trans rfl, (blk_cell BK184.out 0).trans rfl, (blk_cell BK184.out 1).trans rfl, (blk_cell BK184.out 2).trans rfl⟩ (fun hHeld => ?_)
    clear hK K
    refine zW (some 20) ?_
    refine one_ (i := 5) (N := some 22) #[true, true, true, true, true, true, false, false, false, false] rfl rfl (one_of HT_.out (by kernel_rfl)) (by decide) (fun K hK => ?_)
    refine goes_ Try.func57 (by kernel_rfl) rfl #[.agg #[.int .i64 a0_0, .int .i64 a0_1, .int .i64 a0_2], .int .i64 4] (by rfl) rfl rfl zM ?_
    with_reducible refine (impl_Boxes_with.calls k a0_0 a0_1 a0_2 4 t191 _ A7.out).mono ?_
    rintro e w20 ⟨v192, rfl, ho0, hb⟩
    refine ⟨_, rfl, ?_⟩
    refine zA6 (Kd.R_elder' (zR HO189.out) (Kd.R_base ho0) hb) (Kd.R_lower (Kd.R_new' ho0 (Kd.R_lt (zR HO189.out))) (below_size (zH3 HB.out GE184.out GE185.out GE186.out))) (blk_below (g := gb184) (o := .cells #[.int .i64 a0_0, .int .i64 a0_1, .int .i64 a0_2] 25 (0, 0)) (zB BK184.out) hb) (blk_below (g := gb185) (o := .cells #[.int .i64 0, .int .i64 0, .int .i64 0] 25 (0, 0)) (zB BK185.out) hb) (blk_below (g := gb186) (o := .cells #[.int .i64 a0_0, .int .i64 a0_1, .int .i64 (Go.bits .or .i64 a0_2 (ji4))] 25 (0, 0)) (zB BK186.out) hb) (below_step (zH3 HB.out GE184.out GE185.out GE186.out) hb) ?_
    clear HO189 BK184 BK185 BK186 HB
    intro HO189 HO193 BK184 BK185 BK186 HB
    (try clear hb)
    (try clear hb2)
    (try clear hk)
    (try clear hi)
    (try clear ho0)
    obtain ⟨Ao21, co21, eo21⟩ := Kd.R_slice HO193.out
    (first | subst eo21 | (injection eo21 with f1_ f2_ f3_; have f4_ := f1_.symm; have f5_ := f3_.symm; clear f1_ f2_ f3_; subst f4_; subst f5_))
    refine hK.out _ _ ⟨(blk_cell BK186.out 0).trans rfl, (blk_cell BK186.out 1).trans rfl, (blk_cell BK186.out 2).trans rfl, (blk_cell BK184.out 0).trans rfl, (blk_cell BK184.out 1).trans rfl, (blk_cell BK184.out 2).trans rfl⟩ (fun hHeld => ?_)
    clear hK K
    refine zW (some 22) ?_
    refine one_ (i := 6) (N := some 23) #[true, true, true, true, true, true, true, false, false, false] rfl rfl (one_of HT_.out (by kernel_rfl)) (by decide) (fun K hK => ?_)
    refine goes_ Try.func56 (by kernel_rfl) rfl #[.slice Ao21 t191.length co21] (by rfl) rfl rfl zM ?_
    with_reducible refine (impl_size_int64_56.calls _ _ t191 t194 _ ?side1 ?side2 A8.out).mono ?_
    (case side1 => repeat (first | exact (Kd.R_reads' HO193.out).2.2 | (with_reducible refine Kd.C_alloc ?_ _) | (with_reducible refine Kd.C_drewN ?_ _) | (with_reducible refine Kd.C_drew ?_)))
    (case side2 => exact (Kd.R_reads' HO193.out).2.1)
    rintro e w' ⟨rfl, ⟨nd, rfl⟩⟩
    refine ⟨_, rfl, ?_⟩
    refine hK.out _ _ ⟨(blk_cell BK186.out 0).trans rfl, (blk_cell BK186.out 1).trans rfl, (blk_cell BK186.out 2).trans rfl, (blk_cell BK184.out 0).trans rfl, (blk_cell BK184.out 1).trans rfl, (blk_cell BK184.out 2).trans rfl⟩ (fun hHeld => ?_)
    clear hK K
    refine zW (some 23) ?_
    refine zP HT_ 7 (some 24) rfl rfl ?_
    refine one_ (i := 8) (N := none) #[true, true, true, true, true, true, true, true, true, false] rfl rfl (one_of HT_.out (by kernel_rfl)) (by decide) (fun K hK => ?_)
    have hs22 : w20.cell? ⟨gb185, 0, none⟩ = some (.int .i64 0) := (blk_cell BK185.out 0).trans rfl
    have hfs22 := blk_frozen BK185.out 0
    have hns22_0 := NB184_185.out
    have hns22_2 := NB186_185.out
    have hms22_0 := NB185_184.out
    have hms22_2 := NB185_186.out
    have hs23 : w20.cell? ⟨gb185, 1, none⟩ = some (.int .i64 0) := (blk_cell BK185.out 1).trans rfl
    have hfs23 := blk_frozen BK185.out 1
    have hns23_0 := NB184_185.out
    have hns23_2 := NB186_185.out
    have hms23_0 := NB185_184.out
    have hms23_2 := NB185_186.out
    have hs24 : w20.cell? ⟨gb185, 2, none⟩ = some (.int .i64 0) := (blk_cell BK185.out 2).trans rfl
    have hfs24 := blk_frozen BK185.out 2
    have hns24_0 := NB184_185.out
    have hns24_2 := NB186_185.out
    have hms24_0 := NB185_184.out
    have hms24_2 := NB185_186.out
    refine skip_ (w1 := ?_) (by rfl) rfl ?_ ?_
    rotate_left
    · go_simp
      rfl
    refine hK.out _ _ ⟨((cell_far (p := ⟨gb185, _, none⟩) NB186_185.out _).trans (((cell_far (p := ⟨gb185, _, none⟩) NB186_185.out _).trans (((cell_far (p := ⟨gb185, _, none⟩) NB186_185.out _).trans (hHeld.1)))))), ((cell_far (p := ⟨gb185, _, none⟩) NB186_185.out _).trans (((cell_far (p := ⟨gb185, _, none⟩) NB186_185.out _).trans (((cell_far (p := ⟨gb185, _, none⟩) NB186_185.out _).trans (hHeld.2.1)))))), ((cell_far (p := ⟨gb185, _, none⟩) NB186_185.out _).trans (((cell_far (p := ⟨gb185, _, none⟩) NB186_185.out _).trans (((cell_far (p := ⟨gb185, _, none⟩) NB186_185.out _).trans (hHeld.2.2.1)))))), ((cell_far (p := ⟨gb185, _, none⟩) NB184_185.out _).trans (((cell_far (p := ⟨gb185, _, none⟩) NB184_185.out _).trans (((cell_far (p := ⟨gb185, _, none⟩) NB184_185.out _).trans (hHeld.2.2.2.1)))))), ((cell_far (p := ⟨gb185, _, none⟩) NB184_185.out _).trans (((cell_far (p := ⟨gb185, _, none⟩) NB184_185.out _).trans (((cell_far (p := ⟨gb185, _, none⟩) NB184_185.out _).trans (hHeld.2.2.2.2.1)))))), ((cell_far (p := ⟨gb185, _, none⟩) NB184_185.out _).trans (((cell_far (p := ⟨gb185, _, none⟩) NB184_185.out _).trans (((cell_far (p := ⟨gb185, _, none⟩) NB184_185.out _).trans (hHeld.2.2.2.2.2))))))⟩ (fun hHeld => ?_)
    clear hK K
    refine zP HT_ 9 (some 5) rfl rfl ?_
    refine done_ (done_of HT_.out (by kernel_rfl)) ?_
    try go_wp2
    refine bodyPost_ret (results_ct rfl _ _ gb185 25 #[.int .i64 a0_0, .int .i64 a0_1, .int .i64 (Go.bits .or .i64 a0_2 (ji4))] (0, 0) _ rfl (by (with_reducible repeat (first | refine blk_drewN ?_ _ | refine blk_drew ?_ | refine blk_alloc ?_ _)); refine blk_put (cs := #[.int .i64 a0_0, .int .i64 a0_1, .int .i64 0]) ?_ 2 _ rfl; (with_reducible repeat (first | refine blk_drewN ?_ _ | refine blk_drew ?_ | refine blk_alloc ?_ _)); refine blk_put (cs := #[.int .i64 a0_0, .int .i64 0, .int .i64 0]) ?_ 1 _ rfl; (with_reducible repeat (first | refine blk_drewN ?_ _ | refine blk_drew ?_ | refine blk_alloc ?_ _)); refine blk_put (cs := #[.int .i64 0, .int .i64 0, .int .i64 0]) ?_ 0 _ rfl; (with_reducible repeat (first | refine blk_drewN ?_ _ | refine blk_drew ?_ | refine blk_alloc ?_ _)); exact BK185.out) Try.underlying25 rfl (by kernel_rfl)) rfl ?_
    exact ⟨by first | rfl | (simp [errW_none, errW_some] <;> rfl) | (simp only [← hji4]; first | rfl | (simp [errW_none, errW_some] <;> rfl)) | (simp [*, errW_none, errW_some] <;> rfl), zH3 HB.out GE184.out GE185.out GE186.out⟩
  · rw [if_neg c3] at H
    exact absurd H (by simp)

-- NOT PRINTED: function 49 (impl_behind)

-- NOT PRINTED: function 48 (impl_scores_1)

-- NOT PRINTED: function 22 (impl_scores)

/-! ### spec_l03Score: function 25 -/
mutual
def spec_l03Score.l0 : Nat → List Int → List Int → Int → List Int → Int → Int → Int → Int → Int → Option (Int × List Int)
  | 0, _, _, _, _, _, _, _, _, _ => none
  | k + 1, x1, x2, x7, x8, x9, x10, x241000, x241001, x241002 => if x10 < (x8.length : Int) then (if 0 ≤ x10 then ((spec_l03Behind.F (spec_l03Score.f k) k x241000 x241001 x241002 (rd x8 x10) x1 x2).bind fun bt248 => (spec_l03Score.l0 k x1 bt248.2 x7 x8 (mx x9 bt248.1) (wrap64 (x10 + 1)) x241000 x241001 x241002)) else (none)) else (if (x8.length : Int) = 0 then (if 0 ≤ x7 then (if x7 < (x2.length : Int) then (some (0, (x2.set (x7 : Int).toNat 0))) else (none)) else (none)) else (if 0 ≤ x7 then (if x7 < (x2.length : Int) then (some (x9, (x2.set (x7 : Int).toNat x9))) else (none)) else (none)))
def spec_l03Score.f : Nat → Int → Int → Int → List Int → List Int → Option (Int × List Int)
  | 0, _, _, _, _, _ => none
  | k + 1, a0_0, a0_1, a0_2, l1, l2 => (spec_l03Place.f k a0_0 a0_1 a0_2 l1).bind fun t241 => (if 0 ≤ t241 then (if t241 < (l2.length : Int) then (if (rd l2 t241) > (-100) then (some (rd l2 t241, l2)) else ((spec_l03Free.f k a0_0 a0_1 a0_2).bind fun t244 => (spec_l03Score.l0 k l1 l2 t241 t244 (-99) 0 a0_0 a0_1 a0_2))) else (none)) else (none))
end
theorem spec_l03Score.mono_l : ∀ k, (∀ y0 y1 y2 y3 y4, LeO (spec_l03Score.f k y0 y1 y2 y3 y4) (spec_l03Score.f (k + 1) y0 y1 y2 y3 y4)) ∧ (∀ y0 y1 y2 y3 y4 y5 y6 y7 y8, LeO (spec_l03Score.l0 k y0 y1 y2 y3 y4 y5 y6 y7 y8) (spec_l03Score.l0 (k + 1) y0 y1 y2 y3 y4 y5 y6 y7 y8))
  | 0 => ⟨fun _ _ _ _ _ r h => by simp [spec_l03Score.f] at h, fun _ _ _ _ _ _ _ _ _ r h => by simp [spec_l03Score.l0] at h⟩
  | k + 1 => by
    obtain ⟨ih0, ih1⟩ := spec_l03Score.mono_l k
    refine ⟨?_, ?_⟩
    · intro y0 y1 y2 y3 y4
      unfold spec_l03Score.f
      repeat' first
      | (with_reducible exact ih0 _ _ _ _ _)
      | (with_reducible exact ih1 _ _ _ _ _ _ _ _ _)
      | (with_reducible exact spec_l03Behind.F_mono ih0 _ _ _ _ _ _ _)
      | (with_reducible exact spec_l03Free.mono _ _ _ _)
      | (with_reducible exact spec_l03Place.mono _ _ _ _ _)
      | (with_reducible exact LeO.refl _)
      | (with_reducible exact LeO.none _)
      | (with_reducible refine LeO.ite ?_ ?_)
      | (with_reducible refine LeO.bind ?_ (fun _ => ?_))
      | exact ih0 _ _ _ _ _
      | exact ih1 _ _ _ _ _ _ _ _ _
      | exact spec_l03Behind.F_mono ih0 _ _ _ _ _ _ _
      | exact spec_l03Free.mono _ _ _ _
      | exact spec_l03Place.mono _ _ _ _ _
      | exact LeO.none _
      | refine LeO.ite ?_ ?_
      | refine LeO.bind ?_ (fun _ => ?_)
    · intro y0 y1 y2 y3 y4 y5 y6 y7 y8
      unfold spec_l03Score.l0
      repeat' first
      | (with_reducible exact ih0 _ _ _ _ _)
      | (with_reducible exact ih1 _ _ _ _ _ _ _ _ _)
      | (with_reducible exact spec_l03Behind.F_mono ih0 _ _ _ _ _ _ _)
      | (with_reducible exact spec_l03Free.mono _ _ _ _)
      | (with_reducible exact spec_l03Place.mono _ _ _ _ _)
      | (with_reducible exact LeO.refl _)
      | (with_reducible exact LeO.none _)
      | (with_reducible refine LeO.ite ?_ ?_)
      | (with_reducible refine LeO.bind ?_ (fun _ => ?_))
      | exact ih0 _ _ _ _ _
      | exact ih1 _ _ _ _ _ _ _ _ _
      | exact spec_l03Behind.F_mono ih0 _ _ _ _ _ _ _
      | exact spec_l03Free.mono _ _ _ _
      | exact spec_l03Place.mono _ _ _ _ _
      | exact LeO.none _
      | refine LeO.ite ?_ ?_
      | refine LeO.bind ?_ (fun _ => ?_)
theorem spec_l03Score.mono : ∀ a0 a1 a2 a3 a4 k, LeO (spec_l03Score.f k a0 a1 a2 a3 a4) (spec_l03Score.f (k + 1) a0 a1 a2 a3 a4) := by
  intro a0 a1 a2 a3 a4 k
  obtain ⟨ih0, ih1⟩ := spec_l03Score.mono_l k
  exact ih0 a0 a1 a2 a3 a4
def spec_l03Score.T9 : Bool × List (List Nat × List Nat) := (true, [([], []), ([], []), ([], []), ([], []), ([2, 3], [2, 3]), ([4], [4]), ([], []), ([], []), ([1, 5, 6, 7], [1, 5, 6, 7]), ([0, 8], [0, 8]), ([9, 8, 0, 1, 2, 3, 4, 5, 6, 7, 8, 9], [0, 9])])
def spec_l03Score.B9 : List Nat := [0, 0, 0, 0, 12, 28, 0, 0, 254, 511, 1023]
theorem spec_l03Score.tab9 : rtab .any (opsOf Try.f25 9) = spec_l03Score.T9 := by kernel_rfl
theorem spec_l03Score.bits9 : waitsOk spec_l03Score.T9.2 spec_l03Score.B9 = true := by kernel_rfl
set_option maxHeartbeats 8000000 in
set_option maxRecDepth 100000 in
theorem spec_l03Score.calls (k : Nat) : ∀ (a0_0 : Int) (a0_1 : Int) (a0_2 : Int) (A1 : Option Addr) (c1 : Nat) (l1 : List Int) (P2_ : Nat → Prop) (u9000_ : Value) (l2 : List Int) (r1 : Int) (r2 : List Int) (w0 w : World) (hB : Below w0.heap.size w0 w) (hr1 : ∀ W_, Kept w W_ (fun k_ => P2_ k_) → Kd.C (Kd.int .i64) W_ A1 l1.length l1) (hc1 : l1.length ≤ c1) (ho2 : Kd.R (Kd.int .i64) 2 w w0.heap.size P2_ u9000_ l2) (h : spec_l03Score.f k a0_0 a0_1 a0_2 l1 l2 = some (r1, r2)),
    Calls Try.prog 25 #[.agg #[.int .i64 a0_0, .int .i64 a0_1, .int .i64 a0_2], .slice A1 l1.length c1, u9000_] w fun e w' => e = .returned (.int .i64 r1) ∧ Kd.R (Kd.int .i64) 2 w' w0.heap.size (fun k_ => (P2_ k_ ∨ w.heap.size ≤ k_)) u9000_ r2 ∧ Below w0.heap.size w0 w' ∧ Kept w w' (fun k_ => P2_ k_) := by
  induction k using Nat.strongRecOn with
  | _ k ih =>
  intro a0_0 a0_1 a0_2 A1 c1 l1 P2_ u9000_ l2 r1 r2 w0 w hB hr1 hc1 ho2 h
  cases k with
  | zero => exact absurd h (by simp [spec_l03Score.f])
  | succ k =>
  simp only [spec_l03Score.f] at h
  have hu25 := Try.underlying25
  have HR1 := Aside0.mk hr1
  have HC1 := Aside0.mk hc1
  clear hr1 hc1
  have HO2 := Aside0.mk (show Kd.R (Kd.int .i64) 2 w w0.heap.size (fun k_ => (P2_ k_ ∨ w.heap.size ≤ k_)) u9000_ l2 from Kd.R_mono ho2 (fun k_ hk => (.inl hk)))
  have HK := Aside0.mk (Kept.refl w (fun k_ => P2_ k_))
  have HW0 := Aside0.mk hB.size
  have HB := Aside0.mk hB
  clear hB
  have H : ((spec_l03Place.f k a0_0 a0_1 a0_2 l1).bind fun t241 => (if 0 ≤ t241 then (if t241 < (l2.length : Int) then (if (rd l2 t241) > (-100) then (some (rd l2 t241, l2)) else ((spec_l03Free.f k a0_0 a0_1 a0_2).bind fun t244 => (spec_l03Score.l0 k l1 l2 t241 t244 (-99) 0 a0_0 a0_1 a0_2))) else (none)) else (none))) = some (r1, r2) := h
  clear h
  obtain ⟨t241, A4, H⟩ := zb H
  by_cases c5 : 0 ≤ t241
  · rw [if_pos c5] at H
    have c5b0 := decide_eq_true c5
    clear c5
    by_cases c6 : t241 < (l2.length : Int)
    · rw [if_pos c6] at H
      have c6b0 := decide_eq_true c6
      clear c6
      by_cases c7 : (rd l2 t241) > (-100)
      · rw [if_pos c7] at H
        have c7b0 := decide_eq_true c7
        clear c7
        simp only [Option.some.injEq, Prod.mk.injEq] at H
        obtain ⟨rfl, rfl⟩ := H
        go_enter Try.func25, Try.ntmps25
        go_wp2_with (first | ((with_reducible refine gate_dst (N := 3) rfl ?_); refine zX 3 #[.int .i64 a0_0, .int .i64 a0_1, .int .i64 a0_2] 25 ?_; intro gb240 hg w8 hbox hb; refine zA6 (Kd.R_below (zR HO2.out) hb) (Kept.below (S := (fun k_ => P2_ k_)) (zK HK.out) hb) (below_step (zH HB.out) hb) (hbox) ((by rw [hg]; exact (by first | exact HK.out.1 | exact (show Kept w _ (fun k_ => P2_ k_) from zK HK.out).1) : w.heap.size ≤ gb240)) ((zS hg (below_size (zH HB.out)) : w0.heap.size ≤ gb240)) ?_; clear HO2 HK HB; intro HO2 HK HB BK240 GW240 GE240; clear hb hbox hg; obtain ⟨hcz9_0, hcz9_1, hcz9_2⟩ := zc3 BK240; obtain ⟨hfz9_0, hfz9_1, hfz9_2⟩ := zf3 BK240) | ((with_reducible refine gate_callee (f := 52) rfl ?_); refine goesL_ (some 13) rfl rfl Try.func52 (by kernel_rfl) rfl #[.agg #[.int .i64 a0_0, .int .i64 a0_1, .int .i64 a0_2], .slice A1 l1.length c1] rfl zM ?_; (with_reducible refine (spec_l03Place.calls k a0_0 a0_1 a0_2 _ _ l1 t241 _ ?side1 ?side2 A4.out).mono ?_); (case side1 => exact Kd.C_kept_now HR1.out (zK1 HK.out GW240.out)); (case side2 => exact HC1.out); rintro e w10 ⟨rfl, hb⟩; refine ⟨_, rfl, ?_⟩; refine zA4 (Kd.R_below (zR HO2.out) hb) (blk_below (g := gb240) (o := .cells #[.int .i64 a0_0, .int .i64 a0_1, .int .i64 a0_2] 25 (0, 0)) (zB BK240.out) hb) (Kept.below (S := (fun k_ => P2_ k_)) (zK1 HK.out GW240.out) hb) (below_step (zH1 HB.out GE240.out) hb) ?_; clear HO2 BK240 HK HB; intro HO2 BK240 HK HB; (try clear hb); (try clear hb2); (try clear hk); (try clear hi); obtain ⟨Ao11, co11, eo11⟩ := Kd.R_slice HO2.out; subst eo11; have p242 : 0 ≤ (t241 : Int) := of_decide_eq_true (by first | (with_reducible assumption) | assumption); have q242 : t241 < (l2.length : Int) := of_decide_eq_true (by first | (with_reducible assumption) | assumption); obtain ⟨ad242, e242, hx242_0⟩ := Kd.at_int (Kd.R_reads' HO2.out).2.2 t241 p242 q242; cases e242; replace p242 := eq_true p242; replace q242 := eq_true q242; have p243 : 0 ≤ (t241 : Int) := of_decide_eq_true (by first | (with_reducible assumption) | assumption); have q243 : t241 < (l2.length : Int) := of_decide_eq_true (by first | (with_reducible assumption) | assumption); obtain ⟨ad243, e243, hx243_0⟩ := Kd.at_int (Kd.R_reads' HO2.out).2.2 t241 p243 q243; obtain rfl : ad242 = ad243 := (by injection e243); replace p243 := eq_true p243; replace q243 := eq_true q243))
        go_ret
        exact ⟨zE, by (with_reducible repeat (first | apply Kd.R_alloc | apply Kd.R_drewN | apply Kd.R_drew)); exact HO2.out, zH1 HB.out GE240.out, zK1 HK.out GW240.out⟩
      · rw [if_neg c7] at H
        have c7b0 := decide_eq_false c7
        clear c7
        obtain ⟨t244, A12, H⟩ := zb H
        have H' := Aside0.mk H
        clear H
        go_enter Try.func25, Try.ntmps25
        go_wp2_with (first | ((with_reducible refine gate_dst (N := 3) rfl ?_); refine zX 3 #[.int .i64 a0_0, .int .i64 a0_1, .int .i64 a0_2] 25 ?_; intro gb240 hg w13 hbox hb; refine zA6 (Kd.R_below (zR HO2.out) hb) (Kept.below (S := (fun k_ => P2_ k_)) (zK HK.out) hb) (below_step (zH HB.out) hb) (hbox) ((by rw [hg]; exact (by first | exact HK.out.1 | exact (show Kept w _ (fun k_ => P2_ k_) from zK HK.out).1) : w.heap.size ≤ gb240)) ((zS hg (below_size (zH HB.out)) : w0.heap.size ≤ gb240)) ?_; clear HO2 HK HB; intro HO2 HK HB BK240 GW240 GE240; clear hb hbox hg; obtain ⟨hcz14_0, hcz14_1, hcz14_2⟩ := zc3 BK240; obtain ⟨hfz14_0, hfz14_1, hfz14_2⟩ := zf3 BK240) | ((with_reducible refine gate_callee (f := 52) rfl ?_); refine goesL_ (some 13) rfl rfl Try.func52 (by kernel_rfl) rfl #[.agg #[.int .i64 a0_0, .int .i64 a0_1, .int .i64 a0_2], .slice A1 l1.length c1] rfl zM ?_; (with_reducible refine (spec_l03Place.calls k a0_0 a0_1 a0_2 _ _ l1 t241 _ ?side1 ?side2 A4.out).mono ?_); (case side1 => exact Kd.C_kept_now HR1.out (zK1 HK.out GW240.out)); (case side2 => exact HC1.out); rintro e w15 ⟨rfl, hb⟩; refine ⟨_, rfl, ?_⟩; refine zA4 (Kd.R_below (zR HO2.out) hb) (blk_below (g := gb240) (o := .cells #[.int .i64 a0_0, .int .i64 a0_1, .int .i64 a0_2] 25 (0, 0)) (zB BK240.out) hb) (Kept.below (S := (fun k_ => P2_ k_)) (zK1 HK.out GW240.out) hb) (below_step (zH1 HB.out GE240.out) hb) ?_; clear HO2 BK240 HK HB; intro HO2 BK240 HK HB; (try clear hb); (try clear hb2); (try clear hk); (try clear hi); obtain ⟨Ao16, co16, eo16⟩ := Kd.R_slice HO2.out; subst eo16; have p242 : 0 ≤ (t241 : Int) := of_decide_eq_true (by first | (with_reducible assumption) | assumption); have q242 : t241 < (l2.length : Int) := of_decide_eq_true (by first | (with_reducible assumption) | assumption); obtain ⟨ad242, e242, hx242_0⟩ := Kd.at_int (Kd.R_reads' HO2.out).2.2 t241 p242 q242; cases e242; replace p242 := eq_true p242; replace q242 := eq_true q242; obtain ⟨hcz17_0, hcz17_1, hcz17_2⟩ := zc3 BK240; obtain ⟨hfz17_0, hfz17_1, hfz17_2⟩ := zf3 BK240) | ((with_reducible refine gate_callee (f := 24) rfl ?_); refine goesL_ (some 24) rfl rfl Try.func24 (by kernel_rfl) rfl #[.agg #[.int .i64 a0_0, .int .i64 a0_1, .int .i64 a0_2]] rfl zM ?_; (with_reducible refine (spec_l03Free.calls k a0_0 a0_1 a0_2 t244 _ A12.out).mono ?_); rintro e w18 ⟨v245, rfl, ho0, hb⟩; refine ⟨_, rfl, ?_⟩; refine zA5 (Kd.R_elder' (zR HO2.out) (Kd.R_base ho0) hb) (Kd.R_lower (Kd.R_new' (Kd.R_newM (M := fun k_ => (P2_ k_ ∨ w.heap.size ≤ k_)) ho0 (by first | exact HK.out.1 | exact (show Kept w _ (fun k_ => P2_ k_) from zK1 HK.out GW240.out).1) (fun k_ h_ => .inr h_)) (Kd.R_lt (zR HO2.out))) (below_size (zH1 HB.out GE240.out))) (blk_below (g := gb240) (o := .cells #[.int .i64 a0_0, .int .i64 a0_1, .int .i64 a0_2] 25 (0, 0)) (zB BK240.out) hb) (Kept.below (S := (fun k_ => P2_ k_)) (zK1 HK.out GW240.out) hb) (below_step (zH1 HB.out GE240.out) hb) ?_; clear HO2 BK240 HK HB; intro HO2 HO246 BK240 HK HB; (try clear hb); (try clear hb2); (try clear hk); (try clear hi); (try clear ho0)))
        go_loopg [9, 10] k (fun kq v9 v10 w' => ∃ (x2_1 : List Int) (x9_1 : Int) (x10_1 : Int), v9 = .int .i64 x9_1 ∧ v10 = .int .i64 x10_1 ∧ Aside0 (spec_l03Score.l0 kq l1 x2_1 t241 t244 x9_1 x10_1 a0_0 a0_1 a0_2 = some (r1, r2)) ∧ Aside0 (kq ≤ k) ∧ Aside0 (Kd.R (Kd.int .i64) 2 w' w0.heap.size (fun k_ => (P2_ k_ ∨ w.heap.size ≤ k_) ∧ some k_ ≠ (v245 : Value).ownBlock) (.slice (some ad242) l2.length co16) x2_1) ∧ Aside0 (Kd.R (Kd.int .i64) 2 w' w0.heap.size (fun k_ => (P2_ k_ ∨ w.heap.size ≤ k_) ∧ some k_ ≠ ((.slice (some ad242) l2.length co16) : Value).ownBlock) v245 t244) ∧ Aside0 (w'.heap[gb240]? = some (.cells #[.int .i64 a0_0, .int .i64 a0_1, .int .i64 a0_2] 25 (0, 0))) ∧ Aside0 (Kept w w' (fun k_ => P2_ k_)) ∧ Aside0 (Below w0.heap.size w0 w'))
        case atStart => exact ⟨(l2), ((-99)), (0), (zF), (zF), H', ⟨Nat.le_refl _⟩, ⟨zR HO2.out⟩, ⟨zRm HO246.out (fun _ hk => ⟨hk.1.1, hk.2⟩)⟩, ⟨zB BK240.out⟩, ⟨zK1 HK.out GW240.out⟩, ⟨zH1 HB.out GE240.out⟩⟩
        case round =>
          clear H'
          try clear c1
          try clear c2
          try clear p2
          try clear q2
          try clear hx2
          try clear c5
          try clear c5b0
          try clear c6
          try clear c6b0
          try clear c7
          try clear c7b0
          try clear hcz14_0
          try clear hcz14_1
          try clear hcz14_2
          try clear hcz17_0
          try clear hcz17_1
          try clear hcz17_2
          try clear hcz9_0
          try clear hcz9_1
          try clear hcz9_2
          try clear hfz14_0
          try clear hfz14_1
          try clear hfz14_2
          try clear hfz17_0
          try clear hfz17_1
          try clear hfz17_2
          try clear hfz9_0
          try clear hfz9_1
          try clear hfz9_2
          try clear hx242_0
          try clear hx243_0
          try clear p242
          try clear p243
          try clear q242
          try clear q243
          obtain ⟨x2_1, x9_1, x10_1, rfl, rfl, HA, HK1, HO_2, HO_8, BK240, HK, HB⟩ := hrel
          have hl2_1 := (Kd.R_reads' HO_2.out).1
          rw [hl2_1] at HO_2
          (try simp only [hl2_1])
          (try simp only [hl2_1] at BK240)
          (try simp only [hl2_1] at HO_8)
          cases gk with
          | zero => exact absurd HA.out (by simp [spec_l03Score.l0])
          | succ k1 =>
            have H := HA.out
            clear HA
            simp only [spec_l03Score.l0] at H
            by_cases c19 : x10_1 < (t244.length : Int)
            · rw [if_pos c19] at H
              have c19b0 := decide_eq_true c19
              clear c19
              by_cases c20 : 0 ≤ x10_1
              · rw [if_pos c20] at H
                have c20b0 := decide_eq_true c20
                clear c20
                obtain ⟨⟨t248, t249⟩, A21, H⟩ := zb H; (try dsimp only at H)
                obtain ⟨ji22, hji22⟩ := zj (mx x9_1 t248)
                (first | rw [hji22] at H | simp only [hji22] at H)
                (try rw [hji22] at A21)
                have hji22_ : (if x9_1 < t248 then t248 else x9_1) = ji22 := hji22
                have H' := Aside0.mk H
                clear H
                obtain ⟨Ao23, co23, eo23⟩ := Kd.R_slice HO_8.out
                subst eo23
                try go_wp2
                refine zA5 (Kd.R_drew HO_2.out) (Kd.R_drew HO_8.out) (blk_drew BK240.out) (Kept.drew HK.out) (below_drew1 HB.out) ?_
                clear HO_2 HO_8 BK240 HK HB
                intro HO_2 HO_8 BK240 HK HB
                have p247 : 0 ≤ (x10_1 : Int) := of_decide_eq_true (by first | (with_reducible assumption) | assumption)
                have q247 : x10_1 < (t244.length : Int) := of_decide_eq_true (by first | (with_reducible assumption) | assumption)
                obtain ⟨ad247, e247, hx247_0⟩ := Kd.at_int (Kd.R_reads' HO_8.out).2.2 x10_1 p247 q247
                cases e247
                replace p247 := eq_true p247
                replace q247 := eq_true q247
                refine start_ (n := 11) (S := fun w' => w'.cell? ⟨gb240, 0, none⟩ = some (.int .i64 a0_0) ∧ w'.cell? ⟨gb240, 1, none⟩ = some (.int .i64 a0_1) ∧ w'.cell? ⟨gb240, 2, none⟩ = some (.int .i64 a0_2) ∧ w'.cell? (ad247.add (x10_1).toNat) = some (.int .i64 (rd t244 x10_1))) (ds := []) #[false, false, false, false, false, false, false, false, false, false, false] (by kernel_rfl) rfl rfl ⟨(blk_cell BK240.out 0).trans rfl, (blk_cell BK240.out 1).trans rfl, (blk_cell BK240.out 2).trans rfl, hx247_0⟩ (fun hHeld => ?_); refine with_tabW spec_l03Score.tab9 spec_l03Score.bits9 (fun HT_ HW_ => ?_)
                generalize wr.drew = w24 at HO_2 HO_8 BK240 HK HB hx247_0 hHeld ⊢
                refine zP HT_ 0 (some 31) rfl rfl ?_
                refine zP HT_ 2 (some 33) rfl rfl ?_
                refine zP HT_ 3 (some 34) rfl rfl ?_
                refine zP HT_ 4 (some 35) rfl rfl ?_
                refine zP HT_ 6 (some 37) rfl rfl ?_
                refine zP HT_ 7 (some 38) rfl rfl ?_
                refine zT HT_ HW_ hHeld 1 (some 32) rfl rfl ?_
                refine zT HT_ HW_ hHeld 5 (some 36) rfl rfl ?_
                refine one_ (i := 8) (N := some 39) #[true, true, true, true, true, true, true, true, true, false, false] rfl rfl (one_of HT_.out (by kernel_rfl)) (by decide) (fun K hK => ?_)
                refine goes_ Try.func53 (by kernel_rfl) rfl #[.agg #[.int .i64 a0_0, .int .i64 a0_1, .int .i64 a0_2], .int .i64 (rd t244 x10_1), .slice A1 l1.length c1, .slice (some ad242) x2_1.length co16] (by rfl) rfl rfl zM ?_
                with_reducible refine (spec_l03Behind.F_calls k1 (spec_l03Score.f k1) (ih k1 (by have := HK1.out; omega)) a0_0 a0_1 a0_2 (rd t244 x10_1) _ _ l1 (fun k_ => some k_ = (.slice (some ad242) x2_1.length co16 : Value).ownBlock) (.slice (some ad242) x2_1.length co16) x2_1 t248 t249 w0 _ ?side1 ?side2 ?side3 ?side4 A21.out).mono ?_
                (case side1 => exact zH1 HB.out GE240.out)
                (case side2 => exact Kd.C_kept_call HR1.out (zK1 HK.out GW240.out) (fun k_ hs_ => (fun e_ => (HO_2.out.1 k_ e_.symm).1) hs_))
                (case side3 => exact HC1.out)
                (case side4 => exact Kd.R_tight rfl HO_2.out)
                rintro e w25 ⟨rfl, hy0, hb, hkp⟩
                have HS3_ := cell_kept (hHeld.2.2.2) hkp (by first | (rw [add_block]; exact (fun hs_ => (((HO_8.out).1 _ rfl).2) hs_)) | (show ¬ _; simp only [add_block]; exact (fun hs_ => (((HO_8.out).1 _ rfl).2) hs_)) | exact (fun hs_ => (((HO_8.out).1 _ rfl).2) hs_))
                refine ⟨_, rfl, ?_⟩
                refine zA5 (Kd.R_reok rfl hy0 (fun k_ e_ => HO_2.out.1 k_ e_)) (Kd.R_mono (ok' := fun k_ => (P2_ k_ ∨ w.heap.size ≤ k_) ∧ some k_ ≠ (.slice (some ad242) x2_1.length co16 : Value).ownBlock) (Kd.R_keptB (HO_8.out) hkp (fun k_ hk_ hs_ => (hk_.2) hs_)) (fun k_ hk_ => ⟨hk_.1.1, hk_.1.2⟩)) (blk_kept (zB BK240.out) hkp (fun hs_ => (fun e_ => (Kd.R_ne HO_2.out BK240.out (by decide)) e_) hs_)) (Kept.then_ (S := (fun k_ => P2_ k_)) (zK1 HK.out GW240.out) hkp (fun k_ hs_ => (fun e_ => (HO_2.out.1 k_ e_.symm).1) hs_)) (hb) ?_
                clear HO_2 HO_8 BK240 HK HB
                intro HO_2 HO_8 BK240 HK HB
                (try clear hb)
                (try clear hkp)
                (try clear hy0)
                refine hK.out _ _ ⟨(blk_cell BK240.out 0).trans rfl, (blk_cell BK240.out 1).trans rfl, (blk_cell BK240.out 2).trans rfl, HS3_⟩ (fun hHeld => ?_)
                clear hK K
                refine zW (some 39) ?_
                refine zP HT_ 9 (some 40) rfl rfl ?_
                refine zP HT_ 10 (some 9) rfl rfl ?_
                refine done_ (done_of HT_.out (by kernel_rfl)) ?_
                try go_wp2
                (try simp only [← hl2_1])
                go_roundg k1
                case measure => have := HK1.out; omega
                case rel => exact ⟨(t249), (ji22), (wrap64 (x10_1 + 1)), (by first | rfl | (simp; done) | (simp only [← hji22] <;> (first | rfl | simp)) | (simp [*]; done)), (zF), H', ⟨by have := HK1.out; omega⟩, ⟨by (try simp only [hl2_1]); exact zR HO_2.out⟩, ⟨by (try simp only [hl2_1]); exact zR HO_8.out⟩, ⟨by (try simp only [hl2_1]); exact zB BK240.out⟩, ⟨zK1 HK.out GW240.out⟩, ⟨zH1 HB.out GE240.out⟩⟩
              · rw [if_neg c20] at H
                exact absurd H (by simp)
            · rw [if_neg c19] at H
              have c19b0 := decide_eq_false c19
              clear c19
              by_cases c26 : (t244.length : Int) = 0
              · rw [if_pos c26] at H
                have c26b0 := zq1 c26
                have c26b1 := zq2 c26
                clear c26
                by_cases c27 : 0 ≤ t241
                · rw [if_pos c27] at H
                  have c27b0 := decide_eq_true c27
                  clear c27
                  by_cases c28 : t241 < (x2_1.length : Int)
                  · rw [if_pos c28] at H
                    have c28b0 := decide_eq_true c28
                    clear c28
                    obtain ⟨y250, hy250⟩ : ∃ y_ : List Int, y_ = (x2_1.set (t241 : Int).toNat 0) := ⟨_, rfl⟩
                    replace H : (some (0, y250)) = some (r1, r2) := by first | (rw [hy250]; with_reducible exact H) | (have H2_ := (Option.bind_some _ _).symm.trans H; rw [hy250]; with_reducible exact H2_) | (have H2_ := (Option.bind_some _ _).symm.trans H; with_reducible exact H2_) | with_reducible exact H | (rw [hy250]; exact H) | exact H
                    have Ny250 := Aside0.mk hy250
                    clear hy250
                    simp only [Option.some.injEq, Prod.mk.injEq] at H
                    obtain ⟨rfl, rfl⟩ := H
                    obtain ⟨Ao30, co30, eo30⟩ := Kd.R_slice HO_8.out
                    subst eo30
                    have p29 : 0 ≤ (t241 : Int) := of_decide_eq_true (by first | (with_reducible assumption) | assumption)
                    have q29 : (t241 : Int) < ((x2_1.length : Int) : Int) := of_decide_eq_true (by first | (with_reducible assumption) | assumption)
                    obtain ⟨go29, co29, eo29, gb29, gl29, cl29, HG29⟩ := Kd.R_form HO_2.out (by omega)
                    (first | cases eo29 | (injection eo29 with ea_ en_ ec_; (first | subst ea_ | (injection ea_ with ea_; subst ea_)); subst ec_; clear en_))
                    have GB29 := Aside0.mk gb29
                    have GG29 := Aside0.mk HG29
                    clear gb29 gl29 HG29
                    have HMgo29 := Aside0.mk (show (P2_ go29 ∨ w.heap.size ≤ go29) from (HO_2.out.1 _ rfl).1)
                    (first | simp only [add_plain] at hx242_0 | skip)
                    (first | simp only [add_plain] at hx243_0 | skip)
                    obtain ⟨hx29_0, hf29_0⟩ := Kd.R_celln 0 HO_2.out (t241 : Int) p29 q29
                    replace p29 := eq_true p29
                    replace q29 := eq_true q29
                    have HP31 := Kd.R_putg HO_2.out (t241 : Int) 0
                    go_wp2_with (first | ((with_reducible refine gate_store (t := 2) (p := 47) rfl ?_); refine store_event (t := 2) (p := 47) (v := ?vo_w32) (w1 := (wr.setCell ⟨go29, (t241 : Int).toNat, none⟩ (.int .i64 0))) ?hg ?ho ?hn ?hr ?_; (case ho => rfl); (case hg => rfl); (case hn => rfl); (case hr => first | (go_simp; done) | (go_simp; rfl)); intro w32 hw; have hg : wr.grownBy w32 (some go29) := (by rw [hw]; exact HP31.2); have hp_ : Kd.R (Kd.int .i64) 2 w32 w0.heap.size (fun k_ => (P2_ k_ ∨ w.heap.size ≤ k_) ∧ some k_ ≠ (.slice Ao30 t244.length co30 : Value).ownBlock) (.slice (some ⟨go29, 0, none⟩) x2_1.length co16) y250 := (by rw [hw, Ny250.out]; exact HP31.1); clear HP31; refine zA5 (hp_) (Kd.R_after (v := (.slice (some ⟨go29, 0, none⟩) x2_1.length co16)) (v1 := (.slice (some ⟨go29, 0, none⟩) x2_1.length co16)) (ok := (fun k_ => (P2_ k_ ∨ w.heap.size ≤ k_))) (zR HO_8.out) hg (.inl rfl)) (blk_grown (g := gb240) (o := .cells #[.int .i64 a0_0, .int .i64 a0_1, .int .i64 a0_2] 25 (0, 0)) (zB BK240.out) hg (Kd.R_ne HO_2.out BK240.out (by decide))) ((by rw [hw]; exact below_set (HB.out) GB29.out : Below w0.heap.size w0 w32)) (Kept.of_grown (S := (fun k_ => P2_ k_)) hg (zK1 HK.out GW240.out) (fun k_ e_ => (HO_2.out.1 k_ e_).1)) ?_; clear HO_2 HO_8 BK240 HB HK; intro HO_2 HO_8 BK240 HB HK; clear hg hw hp_))
                    go_ret
                    exact ⟨zE, (by first | exact (zRm HO_2.out (fun _ hk => hk.1)) | (simp only [hl2_1]; exact (zRm HO_2.out (fun _ hk => hk.1)))), zH1 HB.out GE240.out, zK1 HK.out GW240.out⟩
                  · rw [if_neg c28] at H
                    exact absurd H (by simp)
                · rw [if_neg c27] at H
                  exact absurd H (by simp)
              · rw [if_neg c26] at H
                have c26b0 := zq3 c26
                have c26b1 := zq4 c26
                have c26b2 : ¬ (t244 = []) := fun h_ => c26 (by rw [h_]; rfl)
                by_cases c33 : 0 ≤ t241
                · rw [if_pos c33] at H
                  have c33b0 := decide_eq_true c33
                  clear c33
                  by_cases c34 : t241 < (x2_1.length : Int)
                  · rw [if_pos c34] at H
                    have c34b0 := decide_eq_true c34
                    clear c34
                    obtain ⟨y251, hy251⟩ : ∃ y_ : List Int, y_ = (x2_1.set (t241 : Int).toNat x9_1) := ⟨_, rfl⟩
                    replace H : (some (x9_1, y251)) = some (r1, r2) := by first | (rw [hy251]; with_reducible exact H) | (have H2_ := (Option.bind_some _ _).symm.trans H; rw [hy251]; with_reducible exact H2_) | (have H2_ := (Option.bind_some _ _).symm.trans H; with_reducible exact H2_) | with_reducible exact H | (rw [hy251]; exact H) | exact H
                    have Ny251 := Aside0.mk hy251
                    clear hy251
                    simp only [Option.some.injEq, Prod.mk.injEq] at H
                    obtain ⟨rfl, rfl⟩ := H
                    obtain ⟨Ao36, co36, eo36⟩ := Kd.R_slice HO_8.out
                    subst eo36
                    have p35 : 0 ≤ (t241 : Int) := of_decide_eq_true (by first | (with_reducible assumption) | assumption)
                    have q35 : (t241 : Int) < ((x2_1.length : Int) : Int) := of_decide_eq_true (by first | (with_reducible assumption) | assumption)
                    obtain ⟨go35, co35, eo35, gb35, gl35, cl35, HG35⟩ := Kd.R_form HO_2.out (by omega)
                    (first | cases eo35 | (injection eo35 with ea_ en_ ec_; (first | subst ea_ | (injection ea_ with ea_; subst ea_)); subst ec_; clear en_))
                    have GB35 := Aside0.mk gb35
                    have GG35 := Aside0.mk HG35
                    clear gb35 gl35 HG35
                    have HMgo35 := Aside0.mk (show (P2_ go35 ∨ w.heap.size ≤ go35) from (HO_2.out.1 _ rfl).1)
                    obtain ⟨hx35_0, hf35_0⟩ := Kd.R_celln 0 HO_2.out (t241 : Int) p35 q35
                    replace p35 := eq_true p35
                    replace q35 := eq_true q35
                    have HP37 := Kd.R_putg HO_2.out (t241 : Int) x9_1
                    go_wp2_with (first | ((with_reducible refine gate_store (t := 2) (p := 47) rfl ?_); refine store_event (t := 2) (p := 47) (v := ?vo_w38) (w1 := (wr.setCell ⟨go35, (t241 : Int).toNat, none⟩ (.int .i64 x9_1))) ?hg ?ho ?hn ?hr ?_; (case ho => rfl); (case hg => rfl); (case hn => rfl); (case hr => first | (go_simp; done) | (go_simp; rfl)); intro w38 hw; have hg : wr.grownBy w38 (some go35) := (by rw [hw]; exact HP37.2); have hp_ : Kd.R (Kd.int .i64) 2 w38 w0.heap.size (fun k_ => (P2_ k_ ∨ w.heap.size ≤ k_) ∧ some k_ ≠ (.slice Ao36 t244.length co36 : Value).ownBlock) (.slice (some ⟨go35, 0, none⟩) x2_1.length co16) y251 := (by rw [hw, Ny251.out]; exact HP37.1); clear HP37; refine zA5 (hp_) (Kd.R_after (v := (.slice (some ⟨go35, 0, none⟩) x2_1.length co16)) (v1 := (.slice (some ⟨go35, 0, none⟩) x2_1.length co16)) (ok := (fun k_ => (P2_ k_ ∨ w.heap.size ≤ k_))) (zR HO_8.out) hg (.inl rfl)) (blk_grown (g := gb240) (o := .cells #[.int .i64 a0_0, .int .i64 a0_1, .int .i64 a0_2] 25 (0, 0)) (zB BK240.out) hg (Kd.R_ne HO_2.out BK240.out (by decide))) ((by rw [hw]; exact below_set (HB.out) GB35.out : Below w0.heap.size w0 w38)) (Kept.of_grown (S := (fun k_ => P2_ k_)) hg (zK1 HK.out GW240.out) (fun k_ e_ => (HO_2.out.1 k_ e_).1)) ?_; clear HO_2 HO_8 BK240 HB HK; intro HO_2 HO_8 BK240 HB HK; clear hg hw hp_))
                    go_ret
                    exact ⟨zE, (by first | exact (zRm HO_2.out (fun _ hk => hk.1)) | (simp only [hl2_1]; exact (zRm HO_2.out (fun _ hk => hk.1)))), zH1 HB.out GE240.out, zK1 HK.out GW240.out⟩
                  · rw [if_neg c34] at H
                    exact absurd H (by simp)
                · rw [if_neg c33] at H
                  exact absurd H (by simp)
    · rw [if_neg c6] at H
      exact absurd H (by simp)
  · rw [if_neg c5] at H
    exact absurd H (by simp)

/-! ### spec_NetScore: function 7 -/
def spec_NetScore.f (k : Nat) (a0_0 : Int) (a0_1 : Int) (a0_2 : Int) : Option (Int × Int) := (spec_l03Given.f k a0_0 a0_1 a0_2).bind fun t257 => (if t257 = 0 then ((spec_l03Free.f k a0_0 a0_1 a0_2).bind fun t258 => ((spec_l03Table.f k t258).bind fun t261 => ((spec_l03Score.f k a0_0 a0_1 a0_2 t258 t261).bind fun bt264 => (some (bt264.1, 0))))) else (some (0, t257)))
theorem spec_NetScore.mono : ∀ a0 a1 a2 k, LeO (spec_NetScore.f k a0 a1 a2) (spec_NetScore.f (k + 1) a0 a1 a2) := by
  intro a0 a1 a2 k
  unfold spec_NetScore.f
  repeat' first
      | (with_reducible exact spec_l03Free.mono _ _ _ _)
      | (with_reducible exact spec_l03Given.mono _ _ _ _)
      | (with_reducible exact spec_l03Score.mono _ _ _ _ _ _)
      | (with_reducible exact spec_l03Table.mono _ _)
      | (with_reducible exact LeO.refl _)
      | (with_reducible exact LeO.none _)
      | (with_reducible refine LeO.ite ?_ ?_)
      | (with_reducible refine LeO.bind ?_ (fun _ => ?_))
      | exact spec_l03Free.mono _ _ _ _
      | exact spec_l03Given.mono _ _ _ _
      | exact spec_l03Score.mono _ _ _ _ _ _
      | exact spec_l03Table.mono _ _
      | exact LeO.none _
      | refine LeO.ite ?_ ?_
      | refine LeO.bind ?_ (fun _ => ?_)
set_option maxHeartbeats 8000000 in
set_option maxRecDepth 100000 in
theorem spec_NetScore.calls (k : Nat) (a0_0 : Int) (a0_1 : Int) (a0_2 : Int) (r1 : Int) (r2 : Int) (w : World) (h : spec_NetScore.f k a0_0 a0_1 a0_2 = some (r1, r2)) :
    Calls Try.prog 7 #[.agg #[.int .i64 a0_0, .int .i64 a0_1, .int .i64 a0_2]] w fun e w' => e = .returned (.tuple #[.int .i64 r1, .int .i64 r2]) ∧ Below w.heap.size w w' := by
  have hu25 := Try.underlying25
  have HB := Aside0.mk (Below.refl w.heap.size w)
  have H : ((spec_l03Given.f k a0_0 a0_1 a0_2).bind fun t257 => (if t257 = 0 then ((spec_l03Free.f k a0_0 a0_1 a0_2).bind fun t258 => ((spec_l03Table.f k t258).bind fun t261 => ((spec_l03Score.f k a0_0 a0_1 a0_2 t258 t261).bind fun bt264 => (some (bt264.1, 0))))) else (some (0, t257)))) = some (r1, r2) := h
  clear h
  obtain ⟨t257, A2, H⟩ := zb H
  by_cases c3 : t257 = 0
  · rw [if_pos c3] at H
    have c3b0 := zq1 c3
    have c3b1 := zq2 c3
    clear c3
    obtain ⟨t258, A4, H⟩ := zb H
    obtain ⟨t261, A5, H⟩ := zb H
    obtain ⟨⟨t264, t265⟩, A6, H⟩ := zb H; (try dsimp only at H)
    simp only [Option.some.injEq, Prod.mk.injEq] at H
    obtain ⟨rfl, rfl⟩ := H
    go_enter Try.func7, Try.ntmps7
    try go_wp2_with (first | ((with_reducible refine gate_dst (N := 1) rfl ?_); refine zX 1 #[.int .i64 a0_0, .int .i64 a0_1, .int .i64 a0_2] 25 ?_; intro gb256 hg w7 hbox hb; refine zA4 (below_step (zH HB.out) hb) (hbox) ((zS hg (below_size (zH HB.out)) : w.heap.size ≤ gb256)) ((zS hg (below_size (zH HB.out)) : w.heap.size ≤ gb256)) ?_; clear HB; intro HB BK256 GW256 GE256; clear hb hbox hg; obtain ⟨hcz8_0, hcz8_1, hcz8_2⟩ := zc3 BK256; obtain ⟨hfz8_0, hfz8_1, hfz8_2⟩ := zf3 BK256) | ((with_reducible refine gate_callee (f := 23) rfl ?_); refine goesL_ (some 7) rfl rfl Try.func23 (by kernel_rfl) rfl #[.agg #[.int .i64 a0_0, .int .i64 a0_1, .int .i64 a0_2]] rfl zM ?_; (with_reducible refine (spec_l03Given.calls k a0_0 a0_1 a0_2 t257 _ A2.out).mono ?_); rintro e w9 ⟨rfl, hb⟩; refine ⟨_, rfl, ?_⟩; refine zA2 (blk_below (g := gb256) (o := .cells #[.int .i64 a0_0, .int .i64 a0_1, .int .i64 a0_2] 25 (0, 0)) (zB BK256.out) hb) (below_step (zH1 HB.out GE256.out) hb) ?_; clear BK256 HB; intro BK256 HB; (try clear hb); (try clear hb2); (try clear hk); (try clear hi); obtain ⟨hcz10_0, hcz10_1, hcz10_2⟩ := zc3 BK256; obtain ⟨hfz10_0, hfz10_1, hfz10_2⟩ := zf3 BK256) | ((with_reducible refine gate_callee (f := 24) rfl ?_); refine goesL_ (some 12) rfl rfl Try.func24 (by kernel_rfl) rfl #[.agg #[.int .i64 a0_0, .int .i64 a0_1, .int .i64 a0_2]] rfl zM ?_; (with_reducible refine (spec_l03Free.calls k a0_0 a0_1 a0_2 t258 _ A4.out).mono ?_); rintro e w11 ⟨v259, rfl, ho0, hb⟩; refine ⟨_, rfl, ?_⟩; refine zA3 (Kd.R_lower ho0 (below_size (zH1 HB.out GE256.out))) (blk_below (g := gb256) (o := .cells #[.int .i64 a0_0, .int .i64 a0_1, .int .i64 a0_2] 25 (0, 0)) (zB BK256.out) hb) (below_step (zH1 HB.out GE256.out) hb) ?_; clear BK256 HB; intro HO260 BK256 HB; (try clear hb); (try clear hb2); (try clear hk); (try clear hi); (try clear ho0)))
    refine zA3 (Kd.R_drew HO260.out) (blk_drew BK256.out) (below_drew1 HB.out) ?_
    clear HO260 BK256 HB
    intro HO260 BK256 HB
    obtain ⟨Ao13, co13, eo13⟩ := Kd.R_slice HO260.out
    (first | subst eo13 | (injection eo13 with f1_ f2_ f3_; have f4_ := f1_.symm; have f5_ := f3_.symm; clear f1_ f2_ f3_; subst f4_; subst f5_))
    refine start_ (n := 7) (S := fun w' => w'.cell? ⟨gb256, 0, none⟩ = some (.int .i64 a0_0) ∧ w'.cell? ⟨gb256, 1, none⟩ = some (.int .i64 a0_1) ∧ w'.cell? ⟨gb256, 2, none⟩ = some (.int .i64 a0_2)) (ds := []) #[false, false, false, false, false, false, false] (by kernel_rfl) rfl rfl ⟨(blk_cell BK256.out 0).trans rfl, (blk_cell BK256.out 1).trans rfl, (blk_cell BK256.out 2).trans rfl⟩ (fun hHeld => ?_)
    generalize w11.drew = w12 at HO260 BK256 HB hHeld ⊢
    refine pure_ (i := 1) (N := some 14) (v := ?_) (a' := ?_) #[false, true, false, false, false, false, false] rfl rfl (by kernel_rfl) (fun _ _ _ h => h) (Or.inl ⟨by rfl, ?_⟩) ?_ ?_
    rotate_left
    · intro w'
      go_simp
      with_reducible rfl
    rotate_left
    · simp only [Act.put, List.setIfInBounds_toArray, List.set_cons_zero, List.set_cons_succ, i64_w, i32_w]
      rfl
    refine pure_ (i := 2) (N := some 15) (v := ?_) (a' := ?_) #[false, true, true, false, false, false, false] rfl rfl (by kernel_rfl) (fun _ _ _ h => h) (Or.inl ⟨by rfl, ?_⟩) ?_ ?_
    rotate_left
    · intro w'
      go_simp
      with_reducible rfl
    rotate_left
    · simp only [Act.put, List.setIfInBounds_toArray, List.set_cons_zero, List.set_cons_succ, i64_w, i32_w]
      rfl
    refine take_ (i := 0) (N := some 13) (v := ?_) (a' := ?_) #[true, true, true, false, false, false, false] rfl rfl (by kernel_rfl) (fun _ _ _ h => h) (Or.inl ⟨by rfl, ?_⟩) hHeld ?_ ?_
    rotate_left
    · rintro w' ⟨s0, s1, s2⟩
      go_simp
      with_reducible rfl
    rotate_left
    · simp only [Act.put, List.setIfInBounds_toArray, List.set_cons_zero, List.set_cons_succ, i64_w, i32_w]
      rfl
    refine one_ (i := 3) (N := some 16) #[true, true, true, true, false, false, false] rfl rfl (by kernel_rfl) (by decide) (fun K hK => ?_)
    refine goes_ Try.func26 (by kernel_rfl) rfl #[.slice Ao13 t258.length co13] (by rfl) rfl rfl zM ?_
    with_reducible refine (spec_l03Table.calls k _ _ t258 t261 _ ?side1 ?side2 A5.out).mono ?_
    (case side1 => repeat (first | exact (Kd.R_reads' HO260.out).2.2 | (with_reducible refine Kd.C_alloc ?_ _) | (with_reducible refine Kd.C_drewN ?_ _) | (with_reducible refine Kd.C_drew ?_)))
    (case side2 => exact (Kd.R_reads' HO260.out).2.1)
    rintro e w14 ⟨v262, rfl, ho0, hb⟩
    refine ⟨_, rfl, ?_⟩
    refine zA4 (Kd.R_elder' (zR HO260.out) (Kd.R_base ho0) hb) (Kd.R_lower (Kd.R_new' ho0 (Kd.R_lt (zR HO260.out))) (below_size (zH1 HB.out GE256.out))) (blk_below (g := gb256) (o := .cells #[.int .i64 a0_0, .int .i64 a0_1, .int .i64 a0_2] 25 (0, 0)) (zB BK256.out) hb) (below_step (zH1 HB.out GE256.out) hb) ?_
    clear HO260 BK256 HB
    intro HO260 HO263 BK256 HB
    (try clear hb)
    (try clear hb2)
    (try clear hk)
    (try clear hi)
    (try clear ho0)
    obtain ⟨Ao15, co15, eo15⟩ := Kd.R_slice HO263.out
    (first | subst eo15 | (injection eo15 with f1_ f2_ f3_; have f4_ := f1_.symm; have f5_ := f3_.symm; clear f1_ f2_ f3_; subst f4_; subst f5_))
    refine hK.out _ _ ⟨(blk_cell BK256.out 0).trans rfl, (blk_cell BK256.out 1).trans rfl, (blk_cell BK256.out 2).trans rfl⟩ (fun hHeld => ?_)
    clear hK K
    refine zW (some 16) ?_
    refine one_ (i := 4) (N := some 17) #[true, true, true, true, true, false, false] rfl rfl (by kernel_rfl) (by decide) (fun K hK => ?_)
    refine goes_ Try.func25 (by kernel_rfl) rfl #[.agg #[.int .i64 a0_0, .int .i64 a0_1, .int .i64 a0_2], .slice Ao13 t258.length co13, .slice Ao15 t261.length co15] (by rfl) rfl rfl zM ?_
    with_reducible refine (spec_l03Score.calls k a0_0 a0_1 a0_2 _ _ t258 (fun k_ => some k_ = (.slice Ao15 t261.length co15 : Value).ownBlock) (.slice Ao15 t261.length co15) t261 t264 t265 w _ ?side1 ?side2 ?side3 ?side4 A6.out).mono ?_
    (case side1 => exact zH1 HB.out GE256.out)
    (case side2 => exact Kd.C_kept_own (HO260.out) (fun k_ hk_ hs_ => (hk_.2) hs_))
    (case side3 => exact (Kd.R_reads' HO260.out).2.1)
    (case side4 => exact Kd.R_tight rfl HO263.out)
    rintro e w16 ⟨rfl, hy0, hb, hkp⟩
    refine ⟨_, rfl, ?_⟩
    refine zA4 (blk_kept (zB BK256.out) hkp (fun hs_ => (fun e_ => (Kd.R_ne HO263.out BK256.out (by decide)) e_) hs_)) (Kd.R_mono (ok' := fun k_ => some k_ ≠ (.slice Ao15 t261.length co15 : Value).ownBlock) (Kd.R_keptB (HO260.out) hkp (fun k_ hk_ hs_ => (hk_.2) hs_)) (fun k_ hk_ => hk_.1.2)) (Kd.R_reok rfl hy0 (fun k_ e_ => HO263.out.1 k_ e_)) (hb) ?_
    clear BK256 HO260 HO263 HB
    intro BK256 HO260 HO263 HB
    (try clear hb)
    (try clear hkp)
    (try clear hy0)
    refine hK.out _ _ ⟨(blk_cell BK256.out 0).trans rfl, (blk_cell BK256.out 1).trans rfl, (blk_cell BK256.out 2).trans rfl⟩ (fun hHeld => ?_)
    clear hK K
    refine zW (some 17) ?_
    refine pure_ (i := 5) (N := some 2) (v := ?_) (a' := ?_) #[true, true, true, true, true, true, false] rfl rfl (by kernel_rfl) (fun _ _ _ h => h) (Or.inl ⟨by rfl, ?_⟩) ?_ ?_
    rotate_left
    · intro w'
      go_simp
      with_reducible rfl
    rotate_left
    · simp only [Act.put, List.setIfInBounds_toArray, List.set_cons_zero, List.set_cons_succ, i64_w, i32_w]
      rfl
    refine pure_ (i := 6) (N := some 3) (v := ?_) (a' := ?_) #[true, true, true, true, true, true, true] rfl rfl (by kernel_rfl) (fun _ _ _ h => h) (Or.inl ⟨by rfl, ?_⟩) ?_ ?_
    rotate_left
    · intro w'
      go_simp
      with_reducible rfl
    rotate_left
    · simp only [Act.put, List.setIfInBounds_toArray, List.set_cons_zero, List.set_cons_succ, i64_w, i32_w]
      rfl
    refine done_ (by kernel_rfl) ?_
    try go_wp2
    go_ret2
    exact ⟨zE, zH1 HB.out GE256.out⟩
  · rw [if_neg c3] at H
    have c3b0 := zq3 c3
    have c3b1 := zq4 c3
    simp only [Option.some.injEq, Prod.mk.injEq] at H
    obtain ⟨rfl, rfl⟩ := H
    go_enter Try.func7, Try.ntmps7
    go_wp2_with (first | ((with_reducible refine gate_dst (N := 1) rfl ?_); refine zX 1 #[.int .i64 a0_0, .int .i64 a0_1, .int .i64 a0_2] 25 ?_; intro gb256 hg w17 hbox hb; refine zA4 (below_step (zH HB.out) hb) (hbox) ((zS hg (below_size (zH HB.out)) : w.heap.size ≤ gb256)) ((zS hg (below_size (zH HB.out)) : w.heap.size ≤ gb256)) ?_; clear HB; intro HB BK256 GW256 GE256; clear hb hbox hg; obtain ⟨hcz18_0, hcz18_1, hcz18_2⟩ := zc3 BK256; obtain ⟨hfz18_0, hfz18_1, hfz18_2⟩ := zf3 BK256) | ((with_reducible refine gate_callee (f := 23) rfl ?_); refine goesL_ (some 7) rfl rfl Try.func23 (by kernel_rfl) rfl #[.agg #[.int .i64 a0_0, .int .i64 a0_1, .int .i64 a0_2]] rfl zM ?_; (with_reducible refine (spec_l03Given.calls k a0_0 a0_1 a0_2 t257 _ A2.out).mono ?_); rintro e w19 ⟨rfl, hb⟩; refine ⟨_, rfl, ?_⟩; refine zA2 (blk_below (g := gb256) (o := .cells #[.int .i64 a0_0, .int .i64 a0_1, .int .i64 a0_2] 25 (0, 0)) (zB BK256.out) hb) (below_step (zH1 HB.out GE256.out) hb) ?_; clear BK256 HB; intro BK256 HB; (try clear hb); (try clear hb2); (try clear hk); (try clear hi)))
    go_ret2
    exact ⟨zE, zH1 HB.out GE256.out⟩

-- NOT PRINTED: function 55 (impl_bestEdges_1)

-- NOT PRINTED: function 27 (impl_bestEdges)
end Go.Proofs.Ytelfllbjcpndfaa.Q
