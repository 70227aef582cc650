-- Written by a program of this session (wip/tools/px.sh) over the seat's translation; Lean checks it.
import Derived.Test.YtbmkhdeeengbmaaQ0
import Derived.Test.YtbmkhdeeengbmaaSq
import Derived.Test.YtbmkhdeeengbmaaQ1
import Derived.Test.YtbmkhdeeengbmaaQ2
namespace Go.Proofs.Ytbmkhdeeengbmaa.Q
open Go.RowKit Go.Proofs.YtbmkhdeeengbmaaW.PrintWords Go.Proofs.YtbmkhdeeengbmaaW.PrintLast Go.Proofs.YtbmkhdeeengbmaaW.PrintMore
attribute [local go_sem] max2_int min2_int max_two min_two max_three min_three max_four min_four   -- for this text's walks alone
set_option linter.unusedVariables false
set_option linter.unusedSimpArgs false

/-! ### spec_l07With: function 19 -/
def spec_l07With.l0 : Nat → Int → Int → Int → List Int → Int → Int → Int → List Int → Option (Int × List Int × Int × Int)
  | 0, _, _, _, _, _, _, _, _ => none
  | k + 1, x7, x8, x9, x282000, x282001, x282002, x289000, x289001 => if x9 > 0 then ((spec_l01Next.f x282000 x282001 x282002 x289000).bind fun bt292 => (if 0 ≤ (IntKind.u64.wrap (bt292.1)) then (if (Go.bits .and .i64 (Go.bits .or .i64 x7 x8) (shl .i64 1 (IntKind.u64.wrap (bt292.1)))) = 0 then ((spec_l07Ones.f k x7).bind fun t295 => ((spec_l07Ones.f k x8).bind fun t296 => (if t295 = t296 then ((spec_l07Fills.f k x289000 x289001 (Go.bits .or .i64 x7 (shl .i64 1 (IntKind.u64.wrap (bt292.1))))).bind fun t297 => (if t297 = true then ((spec_l01Next.f x282000 bt292.2.1 bt292.2.2 5).bind fun bt298 => (if bt298.1 = 0 then (spec_l07With.l0 k (Go.bits .or .i64 x7 (shl .i64 1 (IntKind.u64.wrap (bt292.1)))) x8 (wrap64 (x9 - 1)) x282000 bt298.2.1 bt298.2.2 x289000 x289001) else (spec_l07With.l0 k x7 x8 (wrap64 (x9 - 1)) x282000 bt298.2.1 bt298.2.2 x289000 x289001))) else (spec_l07With.l0 k (Go.bits .or .i64 x7 (shl .i64 1 (IntKind.u64.wrap (bt292.1)))) x8 (wrap64 (x9 - 1)) x282000 bt292.2.1 bt292.2.2 x289000 x289001))) else ((spec_l07Fills.f k x289000 x289001 (Go.bits .or .i64 x8 (shl .i64 1 (IntKind.u64.wrap (bt292.1))))).bind fun t301 => (if t301 = true then ((spec_l01Next.f x282000 bt292.2.1 bt292.2.2 5).bind fun bt302 => (if bt302.1 = 0 then (spec_l07With.l0 k x7 (Go.bits .or .i64 x8 (shl .i64 1 (IntKind.u64.wrap (bt292.1)))) (wrap64 (x9 - 1)) x282000 bt302.2.1 bt302.2.2 x289000 x289001) else (spec_l07With.l0 k x7 x8 (wrap64 (x9 - 1)) x282000 bt302.2.1 bt302.2.2 x289000 x289001))) else (spec_l07With.l0 k x7 (Go.bits .or .i64 x8 (shl .i64 1 (IntKind.u64.wrap (bt292.1)))) (wrap64 (x9 - 1)) x282000 bt292.2.1 bt292.2.2 x289000 x289001)))))) else (spec_l07With.l0 k x7 x8 (wrap64 (x9 - 1)) x282000 bt292.2.1 bt292.2.2 x289000 x289001)) else (none))) else ((spec_l01Next.f x282000 x282001 x282002 20).bind fun bt305 => (if bt305.1 = 0 then (if 0 ≤ (IntKind.u64.wrap (x289000)) then ((spec_l01Pick.f x282000 bt305.2.1 bt305.2.2 (([(-1), shl .i64 1 (IntKind.u64.wrap (x289000)), x8, 3] : List Int))).bind fun bt311 => ((spec_l07Bad.f x282000 bt311.2.1 bt311.2.2 x289000 x289001).bind fun bt314 => (some (bt314.1, bt314.2.1, bt311.1, x8)))) else (none)) else (if bt305.1 = 1 then (if 0 ≤ (IntKind.u64.wrap (x289000)) then ((spec_l01Pick.f x282000 bt305.2.1 bt305.2.2 (([(-1), shl .i64 1 (IntKind.u64.wrap (x289000)), x7] : List Int))).bind fun bt323 => ((spec_l07Bad.f x282000 bt323.2.1 bt323.2.2 x289000 x289001).bind fun bt326 => (some (bt326.1, bt326.2.1, x7, bt323.1)))) else (none)) else ((spec_l07Bad.f x282000 bt305.2.1 bt305.2.2 x289000 x289001).bind fun bt332 => (some (bt332.1, bt332.2.1, x7, x8))))))
def spec_l07With.f (k : Nat) (l0 : List Int) : Option (Int × List Int × Int × Int) := (spec_l01From.f k l0).bind fun bt278 => ((spec_l07Draw.f k bt278.1 bt278.2.1 bt278.2.2).bind fun bt282 => ((spec_l01Next.f bt278.1 bt282.2.2.1 bt282.2.2.2 bt282.1).bind fun bt289 => (spec_l07With.l0 k 0 0 bt289.1 bt278.1 bt289.2.1 bt289.2.2 bt282.1 bt282.2.1)))
theorem spec_l07With.mono_l : ∀ k, (∀ y0 y1 y2 y3 y4 y5 y6 y7, LeO (spec_l07With.l0 k y0 y1 y2 y3 y4 y5 y6 y7) (spec_l07With.l0 (k + 1) y0 y1 y2 y3 y4 y5 y6 y7))
  | 0 => fun _ _ _ _ _ _ _ _ r h => by simp [spec_l07With.l0] at h
  | k + 1 => by
    have ih0 := spec_l07With.mono_l k
    · intro y0 y1 y2 y3 y4 y5 y6 y7
      unfold spec_l07With.l0
      repeat' first
      | (with_reducible exact ih0 _ _ _ _ _ _ _ _)
      | (with_reducible exact spec_l01From.mono _ _)
      | (with_reducible exact spec_l07Draw.mono _ _ _ _)
      | (with_reducible exact spec_l07Fills.mono _ _ _ _)
      | (with_reducible exact spec_l07Ones.mono _ _)
      | (with_reducible exact LeO.refl _)
      | (with_reducible exact LeO.none _)
      | (with_reducible refine LeO.ite ?_ ?_)
      | (with_reducible refine LeO.bind ?_ (fun _ => ?_))
      | exact ih0 _ _ _ _ _ _ _ _
      | exact spec_l01From.mono _ _
      | exact spec_l07Draw.mono _ _ _ _
      | exact spec_l07Fills.mono _ _ _ _
      | exact spec_l07Ones.mono _ _
      | exact LeO.none _
      | refine LeO.ite ?_ ?_
      | refine LeO.bind ?_ (fun _ => ?_)
theorem spec_l07With.mono : ∀ a0 k, LeO (spec_l07With.f k a0) (spec_l07With.f (k + 1) a0) := by
  intro a0 k
  have ih0 := spec_l07With.mono_l k
  unfold spec_l07With.f
  repeat' first
      | (with_reducible exact ih0 _ _ _ _ _ _ _ _)
      | (with_reducible exact spec_l01From.mono _ _)
      | (with_reducible exact spec_l07Draw.mono _ _ _ _)
      | (with_reducible exact spec_l07Fills.mono _ _ _ _)
      | (with_reducible exact spec_l07Ones.mono _ _)
      | (with_reducible exact LeO.refl _)
      | (with_reducible exact LeO.none _)
      | (with_reducible refine LeO.ite ?_ ?_)
      | (with_reducible refine LeO.bind ?_ (fun _ => ?_))
      | exact ih0 _ _ _ _ _ _ _ _
      | exact spec_l01From.mono _ _
      | exact spec_l07Draw.mono _ _ _ _
      | exact spec_l07Fills.mono _ _ _ _
      | exact spec_l07Ones.mono _ _
      | exact LeO.none _
      | refine LeO.ite ?_ ?_
      | refine LeO.bind ?_ (fun _ => ?_)
set_option maxHeartbeats 8000000 in
set_option maxRecDepth 100000 in
theorem spec_l07With.calls (k : Nat) (A0 : Option Addr) (c0 : Nat) (l0 : List Int) (r1 : Int) (r2 : List Int) (r3 : Int) (r4 : Int) (w : World) (hr0 : Kd.C (Kd.int .u8) w A0 l0.length l0) (hc0 : l0.length ≤ c0) (h : spec_l07With.f k l0 = some (r1, r2, r3, r4)) :
    Calls Try.prog 19 #[.slice A0 l0.length c0] w fun e w' => ∃ v1_ : Value, e = .returned (.tuple #[.agg #[.int .i64 r1, v1_], .int .i64 r3, .int .i64 r4]) ∧ Kd.R (Kd.int .i64) 2 w' w.heap.size (fun _ => True) v1_ r2 ∧ Below w.heap.size w w' := by
  have hu26 := Try.underlying26
  have HR0 := Aside0.mk hr0
  have HC0 := Aside0.mk hc0
  clear hr0 hc0
  have HB := Aside0.mk (Below.refl w.heap.size w)
  have H : ((spec_l01From.f k l0).bind fun bt278 => ((spec_l07Draw.f k bt278.1 bt278.2.1 bt278.2.2).bind fun bt282 => ((spec_l01Next.f bt278.1 bt282.2.2.1 bt282.2.2.2 bt282.1).bind fun bt289 => (spec_l07With.l0 k 0 0 bt289.1 bt278.1 bt289.2.1 bt289.2.2 bt282.1 bt282.2.1)))) = some (r1, r2, r3, r4) := h
  clear h
  obtain ⟨⟨t278, t279, t280⟩, A2, H⟩ := zb H; (try dsimp only at H)
  obtain ⟨⟨t282, t283, t286, t287⟩, A3, H⟩ := zb H; (try dsimp only at H)
  obtain ⟨⟨t289, t290, t291⟩, A4, H⟩ := zb H; (try dsimp only at H)
  have H' := Aside0.mk H
  clear H
  go_enter Try.func19, Try.ntmps19
  go_wp2_with (first | ((with_reducible refine gate_dst (N := 2) rfl ?_); refine zX 2 #[.int .i64 0, .slice none 0 0] 26 ?_; intro gb277 hg w5 hbox hb; refine zA4 (below_step (zH HB.out) hb) (hbox) ((zS hg (below_size (zH HB.out)) : w.heap.size ≤ gb277)) ((zS hg (below_size (zH HB.out)) : w.heap.size ≤ gb277)) ?_; clear HB; intro HB BK277 GW277 GE277; clear hb hbox hg) | ((with_reducible refine gate_callee (f := 39) rfl ?_); refine goesL_ (some 13) rfl rfl Try.func39 (by kernel_rfl) rfl #[.slice A0 l0.length c0] rfl zM ?_; (with_reducible refine (spec_l01From.calls k _ _ l0 t278 t279 t280 w _ ?side1 ?side2 ?side3 A2.out).mono ?_); (case side1 => exact zH1 HB.out GE277.out); (case side2 => exact HR0.out); (case side3 => exact HC0.out); rintro e w6 ⟨g281, rfl, hi, hb, hb2⟩; refine ⟨_, rfl, ?_⟩; refine zA5 (blk_below (g := gb277) (o := .cells #[.int .i64 0, .slice none 0 0] 26 (0, 0)) (zB BK277.out) hb2) (hb) (hi) (IsS81.ne_blk hi (blk_below (g := gb277) (o := .cells #[.int .i64 0, .slice none 0 0] 26 (0, 0)) (zB BK277.out) hb2) (by decide)) (Ne.symm (IsS81.ne_blk hi (blk_below (g := gb277) (o := .cells #[.int .i64 0, .slice none 0 0] 26 (0, 0)) (zB BK277.out) hb2) (by decide))) ?_; clear BK277 HB; intro BK277 HB HI281 NB281_277 NB277_281; (try clear hb); (try clear hb2); (try clear hk); (try clear hi)) | ((with_reducible refine gate_callee (f := 40) rfl ?_); refine goesL_ (some 15) rfl rfl Try.func40 (by kernel_rfl) rfl #[.pointer (some ⟨g281, 0, none⟩)] rfl zM ?_; (with_reducible refine (spec_l07Draw.calls k g281 t278 t279 t280 t282 t283 t286 t287 w _ ?side1 ?side2 A3.out).mono ?_); (case side1 => repeat (first | (with_reducible first | exact HI281.out | apply IsS81.alloc | apply IsS81.drewN | apply IsS81.drew | apply IsS81.set_1 | apply IsS81.set_2 | refine IsS81.far ?_ NB281_277.out _) | exact HI281.out)); (case side2 => repeat (first | (with_reducible first | exact HB.out | apply below_alloc | apply pw_below_drewN | apply below_drew1 | refine below_set ?_ (IsS81.ge HI281.out) | refine below_set ?_ GE277.out) | exact HB.out)); rintro e w7 ⟨v284, rfl, ho0, hi, hb, hk⟩; refine ⟨_, rfl, ?_⟩; refine zA4 (KeepBut.blk hk (g' := gb277) (o := .cells #[.int .i64 0, .slice none 0 0] 26 (0, 0)) (zB BK277.out) NB277_281.out (by simp)) (Kd.R_lower ho0 (below_size (by repeat (first | (with_reducible first | exact HB.out | apply below_alloc | apply pw_below_drewN | apply below_drew1 | refine below_set ?_ (IsS81.ge HI281.out) | refine below_set ?_ GE277.out) | exact HB.out)))) (hb) (hi) ?_; clear BK277 HB HI281; intro BK277 HO285 HB HI281; (try clear hb); (try clear hb2); (try clear hk); (try clear hi); (try clear ho0)) | ((with_reducible refine gate_dst (N := 6) rfl ?_); refine zX 6 #[.int .i64 0, .slice none 0 0] 26 ?_; intro gb288 hg w8 hbox hb; refine zA11 (Kd.R_below (zR HO285.out) hb) (blk_below (g := gb277) (o := .cells #[.int .i64 0, .slice none 0 0] 26 (0, 0)) (zB BK277.out) hb) (IsS81.below (by repeat (first | (with_reducible first | exact HI281.out | apply IsS81.alloc | apply IsS81.drewN | apply IsS81.drew | apply IsS81.set_1 | apply IsS81.set_2 | refine IsS81.far ?_ NB281_277.out _) | exact HI281.out)) hb) (below_step (by repeat (first | (with_reducible first | exact HB.out | apply below_alloc | apply pw_below_drewN | apply below_drew1 | refine below_set ?_ (IsS81.ge HI281.out) | refine below_set ?_ GE277.out) | exact HB.out)) hb) (hbox) ((by rw [hg]; exact (below_size (by repeat (first | (with_reducible first | exact HB.out | apply below_alloc | apply pw_below_drewN | apply below_drew1 | refine below_set ?_ (IsS81.ge HI281.out) | refine below_set ?_ GE277.out) | exact HB.out))) : w.heap.size ≤ gb288)) ((by rw [hg]; exact (below_size (by repeat (first | (with_reducible first | exact HB.out | apply below_alloc | apply pw_below_drewN | apply below_drew1 | refine below_set ?_ (IsS81.ge HI281.out) | refine below_set ?_ GE277.out) | exact HB.out))) : w.heap.size ≤ gb288)) ((zl hg (blk_lt (g := gb277) (o := .cells #[.int .i64 0, .slice none 0 0] 26 (0, 0)) (zB BK277.out)) : gb277 ≠ gb288)) ((zg hg (blk_lt (g := gb277) (o := .cells #[.int .i64 0, .slice none 0 0] 26 (0, 0)) (zB BK277.out)) : gb288 ≠ gb277)) ((zl hg (IsS81.lt (show IsS81 w _ g281 t278 t286 t287 from by repeat (first | (with_reducible first | exact HI281.out | apply IsS81.alloc | apply IsS81.drewN | apply IsS81.drew | apply IsS81.set_1 | apply IsS81.set_2 | refine IsS81.far ?_ NB281_277.out _) | exact HI281.out))) : g281 ≠ gb288)) ((zg hg (IsS81.lt (show IsS81 w _ g281 t278 t286 t287 from by repeat (first | (with_reducible first | exact HI281.out | apply IsS81.alloc | apply IsS81.drewN | apply IsS81.drew | apply IsS81.set_1 | apply IsS81.set_2 | refine IsS81.far ?_ NB281_277.out _) | exact HI281.out))) : gb288 ≠ g281)) ?_; clear HO285 BK277 HI281 HB; intro HO285 BK277 HI281 HB BK288 GW288 GE288 NB277_288 NB288_277 NB281_288 NB288_281; clear hb hbox hg; have hnb9 := NB288_277.out; have hnc9 := NB277_288.out; have hnb10 := NB288_281.out; have hnc10 := NB281_288.out; obtain ⟨hcz11_0, hcz11_1⟩ := zc2 BK288; obtain ⟨hfz11_0, hfz11_1⟩ := zf2 BK288; obtain ⟨Ao12, co12, eo12⟩ := Kd.R_slice HO285.out; subst eo12) | ((with_reducible refine gate_callee (f := 41) rfl ?_); refine goesL_ (some 19) rfl rfl Try.func41 (by kernel_rfl) rfl #[.pointer (some ⟨g281, 0, none⟩), .int .i64 t282] rfl zM ?_; (with_reducible refine (spec_l01Next.calls g281 t278 t286 t287 t282 t289 t290 t291 w _ ?side1 ?side2 A4.out).mono ?_); (case side1 => repeat (first | (with_reducible first | exact HI281.out | apply IsS81.alloc | apply IsS81.drewN | apply IsS81.drew | apply IsS81.set_1 | apply IsS81.set_2 | refine IsS81.far ?_ NB281_277.out _ | refine IsS81.far ?_ NB281_288.out _) | exact HI281.out)); (case side2 => repeat (first | (with_reducible first | exact HB.out | apply below_alloc | apply pw_below_drewN | apply below_drew1 | refine below_set ?_ (IsS81.ge HI281.out) | refine below_set ?_ GE277.out | refine below_set ?_ GE288.out) | exact HB.out)); rintro e w13 ⟨rfl, hi, hb, hk⟩; refine ⟨_, rfl, ?_⟩; refine zA5 (KeepBut.blk hk (g' := gb277) (o := .cells #[.int .i64 0, .slice none 0 0] 26 (0, 0)) (by (with_reducible repeat (first | refine blk_drewN ?_ _ | refine blk_drew ?_ | refine blk_alloc ?_ _)); refine blk_far ?_ NB277_288.out _; (with_reducible repeat (first | refine blk_drewN ?_ _ | refine blk_drew ?_ | refine blk_alloc ?_ _)); refine blk_far ?_ NB277_288.out _; (with_reducible repeat (first | refine blk_drewN ?_ _ | refine blk_drew ?_ | refine blk_alloc ?_ _)); exact BK277.out) NB277_281.out (by simp)) (Kd.R_mono (Kd.R_keep (IsS81.apart (show IsS81 w _ g281 t278 t286 t287 from by repeat (first | (with_reducible first | exact HI281.out | apply IsS81.alloc | apply IsS81.drewN | apply IsS81.drew | apply IsS81.set_1 | apply IsS81.set_2 | refine IsS81.far ?_ NB281_277.out _ | refine IsS81.far ?_ NB281_288.out _) | exact HI281.out)) (by (with_reducible repeat (first | apply Kd.R_alloc | apply Kd.R_drewN | apply Kd.R_drew)); exact (Kd.R_mono (Kd.R_far (p := ⟨gb288, 1, none⟩) (Kd.R_far (p := ⟨gb288, 0, none⟩) (Kd.R_types HO285.out BK288.out (by decide)) (fun _ hk => hk.2) (.int .i64 t282)) (fun _ hk => hk.2) (.slice Ao12 t283.length co12)) (fun _ h_ => h_.1))) (by decide)) hk (fun _ h => h.2)) (fun _ h => h.1)) (KeepBut.blk hk (g' := gb288) (o := .cells #[.int .i64 t282, .slice Ao12 t283.length co12] 26 (0, 0)) (by (with_reducible repeat (first | refine blk_drewN ?_ _ | refine blk_drew ?_ | refine blk_alloc ?_ _)); refine blk_put (cs := #[.int .i64 t282, .slice none 0 0]) ?_ 1 _ rfl; (with_reducible repeat (first | refine blk_drewN ?_ _ | refine blk_drew ?_ | refine blk_alloc ?_ _)); refine blk_put (cs := #[.int .i64 0, .slice none 0 0]) ?_ 0 _ rfl; (with_reducible repeat (first | refine blk_drewN ?_ _ | refine blk_drew ?_ | refine blk_alloc ?_ _)); exact BK288.out) NB288_281.out (by simp)) (hb) (hi) ?_; clear BK277 HO285 BK288 HB HI281; intro BK277 HO285 BK288 HB HI281; (try clear hb); (try clear hb2); (try clear hk); (try clear hi)))
  go_loopg [7, 8, 9] k (fun kq v7 v8 v9 w' => ∃ (x7_1 : Int) (x8_1 : Int) (x9_1 : Int) (x282001_1 : Int) (x282002_1 : Int), v7 = .int .i64 x7_1 ∧ v8 = .int .i64 x8_1 ∧ v9 = .int .i64 x9_1 ∧ Aside0 (spec_l07With.l0 kq x7_1 x8_1 x9_1 t278 x282001_1 x282002_1 t282 t283 = some (r1, r2, r3, r4)) ∧ Aside0 (kq ≤ k) ∧ Aside0 (Kd.R (Kd.int .i64) 2 w' w.heap.size (fun _ => True) (.slice Ao12 t283.length co12) t283) ∧ Aside0 (w'.heap[gb277]? = some (.cells #[.int .i64 0, (.slice none 0 0)] 26 (0, 0))) ∧ Aside0 (w'.heap[gb288]? = some (.cells #[.int .i64 t282, (.slice Ao12 t283.length co12)] 26 (0, 0))) ∧ Aside0 (IsS81 w w' g281 t278 x282001_1 x282002_1) ∧ Aside0 (Below w.heap.size w w'))
  case atStart => exact ⟨(0), (0), (t289), (t290), (t291), (zF), (zF), (zF), H', ⟨Nat.le_refl _⟩, ⟨zR HO285.out⟩, ⟨zB BK277.out⟩, ⟨zB BK288.out⟩, ⟨by repeat (first | (with_reducible first | exact HI281.out | apply IsS81.alloc | apply IsS81.drewN | apply IsS81.drew | apply IsS81.set_1 | apply IsS81.set_2 | refine IsS81.far ?_ NB281_277.out _ | refine IsS81.far ?_ NB281_288.out _) | exact HI281.out)⟩, ⟨by repeat (first | (with_reducible first | exact HB.out | apply below_alloc | apply pw_below_drewN | apply below_drew1 | refine below_set ?_ (IsS81.ge HI281.out) | refine below_set ?_ GE277.out | refine below_set ?_ GE288.out) | exact HB.out)⟩⟩
  case round =>
    clear H'
    try clear c1
    try clear p2
    try clear c3
    try clear c4
    try clear c9
    try clear c10
    try clear hcz11_0
    try clear hcz11_1
    try clear hfz11_0
    try clear hfz11_1
    obtain ⟨x7_1, x8_1, x9_1, x282001_1, x282002_1, rfl, rfl, rfl, HA, HK1, HO_289001, BK277, BK288, HI281, HB⟩ := hrel
    cases gk with
    | zero => exact absurd HA.out (by simp [spec_l07With.l0])
    | succ k1 =>
      have H := HA.out
      clear HA
      simp only [spec_l07With.l0] at H
      by_cases c14 : x9_1 > 0
      · rw [if_pos c14] at H
        have c14b0 := decide_eq_true c14
        clear c14
        obtain ⟨⟨t292, t293, t294⟩, A15, H⟩ := zb H; (try dsimp only at H)
        obtain ⟨ji16, hji16⟩ := zj (IntKind.u64.wrap (t292))
        (first | rw [hji16] at H | simp only [hji16] at H)
        (try rw [hji16] at A15)
        by_cases c17 : 0 ≤ (ji16)
        · rw [if_pos c17] at H
          have c17b0 := eq_true c17
          have c17b1 := decide_eq_true c17
          clear c17
          obtain ⟨ji18, hji18⟩ := zj (shl .i64 1 (ji16))
          (first | rw [hji18] at H | simp only [hji18] at H)
          (try rw [hji18] at A15)
          have hji18_ : (IntKind.i64.wrap (1 * 2 ^ min (ji16).toNat 64)) = ji18 := hji18
          have hji18z : (ji16) ≤ 64 → (IntKind.i64.wrap (1 * 2 ^ (ji16).toNat)) = ji18 := shl_small hji18
          have hji18u : (IntKind.i64.wrap (2 ^ min (ji16).toNat 64)) = ji18 := by have h_ := hji18_; rw [Int.one_mul] at h_; exact h_
          have hji18v : (ji16) ≤ 64 → (IntKind.i64.wrap (2 ^ (ji16).toNat)) = ji18 := fun hle_ => by have h_ := hji18z hle_; rw [Int.one_mul] at h_; exact h_
          have hji18y : (wrap64 (1 * 2 ^ min (ji16).toNat 64)) = ji18 := (i64_w _).symm.trans hji18_
          have hji18x : (ji16) ≤ 64 → (wrap64 (1 * 2 ^ (ji16).toNat)) = ji18 := fun h_ => (i64_w _).symm.trans (hji18z h_)
          by_cases c19 : (Go.bits .and .i64 (Go.bits .or .i64 x7_1 x8_1) (ji18)) = 0
          · rw [if_pos c19] at H
            have c19b0 := zq1 c19
            have c19b1 := zq2 c19
            clear c19
            obtain ⟨t295, A20, H⟩ := zb H
            obtain ⟨t296, A21, H⟩ := zb H
            by_cases c22 : t295 = t296
            · rw [if_pos c22] at H
              have c22b0 := zq1 c22
              have c22b1 := zq2 c22
              clear c22
              obtain ⟨t297, A23, H⟩ := zb H
              by_cases c24 : t297 = true
              · subst c24
                have H1 : ((spec_l01Next.f t278 t293 t294 5).bind fun bt298 => (if bt298.1 = 0 then (spec_l07With.l0 k1 (Go.bits .or .i64 x7_1 (ji18)) x8_1 (wrap64 (x9_1 - 1)) t278 bt298.2.1 bt298.2.2 t282 t283) else (spec_l07With.l0 k1 x7_1 x8_1 (wrap64 (x9_1 - 1)) t278 bt298.2.1 bt298.2.2 t282 t283))) = some (r1, r2, r3, r4) := by rw [if_pos rfl] at H; exact H
                clear H
                have H := H1
                clear H1
                obtain ⟨⟨t298, t299, t300⟩, A25, H⟩ := zb H; (try dsimp only at H)
                by_cases c26 : t298 = 0
                · rw [if_pos c26] at H
                  have c26b0 := zq1 c26
                  have c26b1 := zq2 c26
                  clear c26
                  have H' := Aside0.mk H
                  clear H
                  have hnb27 := NB288_277.out
                  have hnc27 := NB277_288.out
                  have hnb28 := NB288_281.out
                  have hnc28 := NB281_288.out
                  obtain ⟨hcz29_0, hcz29_1⟩ := zc2 BK288
                  obtain ⟨hfz29_0, hfz29_1⟩ := zf2 BK288
                  go_wp2_with (first | ((with_reducible refine gate_callee (f := 41) rfl ?_); refine goesL_ (some 27) rfl rfl Try.func41 (by kernel_rfl) rfl #[.pointer (some ⟨g281, 0, none⟩), .int .i64 t282] rfl zM ?_; (with_reducible refine (spec_l01Next.calls g281 t278 x282001_1 x282002_1 t282 t292 t293 t294 w _ ?side1 ?side2 A15.out).mono ?_); (case side1 => repeat (first | (with_reducible first | exact HI281.out | apply IsS81.alloc | apply IsS81.drewN | apply IsS81.drew | apply IsS81.set_1 | apply IsS81.set_2 | refine IsS81.far ?_ NB281_277.out _ | refine IsS81.far ?_ NB281_288.out _) | exact HI281.out)); (case side2 => repeat (first | (with_reducible first | exact HB.out | apply below_alloc | apply pw_below_drewN | apply below_drew1 | refine below_set ?_ (IsS81.ge HI281.out) | refine below_set ?_ GE277.out | refine below_set ?_ GE288.out) | exact HB.out)); rintro e w30 ⟨rfl, hi, hb, hk⟩; refine ⟨_, rfl, ?_⟩; refine zA5 (Kd.R_mono (Kd.R_keep (IsS81.apart (show IsS81 w _ g281 t278 x282001_1 x282002_1 from by repeat (first | (with_reducible first | exact HI281.out | apply IsS81.alloc | apply IsS81.drewN | apply IsS81.drew | apply IsS81.set_1 | apply IsS81.set_2 | refine IsS81.far ?_ NB281_277.out _ | refine IsS81.far ?_ NB281_288.out _) | exact HI281.out)) (zR HO_289001.out) (by decide)) hk (fun _ h => h.2)) (fun _ h => h.1)) (KeepBut.blk hk (g' := gb277) (o := .cells #[.int .i64 0, .slice none 0 0] 26 (0, 0)) (zB BK277.out) NB277_281.out (by simp)) (KeepBut.blk hk (g' := gb288) (o := .cells #[.int .i64 t282, .slice Ao12 t283.length co12] 26 (0, 0)) (zB BK288.out) NB288_281.out (by simp)) (hb) (hi) ?_; clear HO_289001 BK277 BK288 HB HI281; intro HO_289001 BK277 BK288 HB HI281; (try clear hb); (try clear hb2); (try clear hk); (try clear hi)) | ((with_reducible refine gate_callee (f := 42) rfl ?_); refine goesL_ (some 38) rfl rfl Try.func42 (by kernel_rfl) rfl #[.int .i64 x7_1] rfl zM ?_; (with_reducible refine (spec_l07Ones.calls k1 x7_1 t295 _ A20.out).mono ?_); rintro e w' ⟨rfl, ⟨nd, rfl⟩⟩; refine ⟨_, rfl, ?_⟩) | ((with_reducible refine gate_callee (f := 42) rfl ?_); refine goesL_ (some 40) rfl rfl Try.func42 (by kernel_rfl) rfl #[.int .i64 x8_1] rfl zM ?_; (with_reducible refine (spec_l07Ones.calls k1 x8_1 t296 _ A21.out).mono ?_); rintro e w' ⟨rfl, ⟨nd, rfl⟩⟩; refine ⟨_, rfl, ?_⟩; obtain ⟨hcz31_0, hcz31_1⟩ := zc2 BK288; obtain ⟨hfz31_0, hfz31_1⟩ := zf2 BK288) | ((with_reducible refine gate_callee (f := 37) rfl ?_); refine goesL_ (some 46) rfl rfl Try.func37 (by kernel_rfl) rfl #[.agg #[.int .i64 t282, .slice Ao12 t283.length co12], .int .i64 (Go.bits .or .i64 x7_1 (ji18))] rfl (zM1 hji18) ?_; (with_reducible refine (spec_l07Fills.calls k1 t282 _ _ t283 (Go.bits .or .i64 x7_1 (ji18)) true _ ?side1 ?side2 A23.out).mono ?_); (case side1 => repeat (first | exact (Kd.R_reads' HO_289001.out).2.2 | (with_reducible refine Kd.C_alloc ?_ _) | (with_reducible refine Kd.C_drewN ?_ _) | (with_reducible refine Kd.C_drew ?_))); (case side2 => exact (Kd.R_reads' HO_289001.out).2.1); rintro e w32 ⟨rfl, hb⟩; refine ⟨_, rfl, ?_⟩; refine zA5 (Kd.R_below (zR HO_289001.out) hb) (blk_below (g := gb277) (o := .cells #[.int .i64 0, .slice none 0 0] 26 (0, 0)) (zB BK277.out) hb) (blk_below (g := gb288) (o := .cells #[.int .i64 t282, .slice Ao12 t283.length co12] 26 (0, 0)) (zB BK288.out) hb) (IsS81.below (by repeat (first | (with_reducible first | exact HI281.out | apply IsS81.alloc | apply IsS81.drewN | apply IsS81.drew | apply IsS81.set_1 | apply IsS81.set_2 | refine IsS81.far ?_ NB281_277.out _ | refine IsS81.far ?_ NB281_288.out _) | exact HI281.out)) hb) (below_step (by repeat (first | (with_reducible first | exact HB.out | apply below_alloc | apply pw_below_drewN | apply below_drew1 | refine below_set ?_ (IsS81.ge HI281.out) | refine below_set ?_ GE277.out | refine below_set ?_ GE288.out) | exact HB.out)) hb) ?_; clear HO_289001 BK277 BK288 HI281 HB; intro HO_289001 BK277 BK288 HI281 HB; (try clear hb); (try clear hb2); (try clear hk); (try clear hi)) | (go_at_call 41; (with_reducible refine (spec_l01Next.calls g281 t278 t293 t294 5 t298 t299 t300 w _ ?side1 ?side2 A25.out).mono ?_); (case side1 => repeat (first | (with_reducible first | exact HI281.out | apply IsS81.alloc | apply IsS81.drewN | apply IsS81.drew | apply IsS81.set_1 | apply IsS81.set_2 | refine IsS81.far ?_ NB281_277.out _ | refine IsS81.far ?_ NB281_288.out _) | exact HI281.out)); (case side2 => repeat (first | (with_reducible first | exact HB.out | apply below_alloc | apply pw_below_drewN | apply below_drew1 | refine below_set ?_ (IsS81.ge HI281.out) | refine below_set ?_ GE277.out | refine below_set ?_ GE288.out) | exact HB.out)); rintro e w33 ⟨rfl, hi, hb, hk⟩; refine zA5 (Kd.R_mono (Kd.R_keep (IsS81.apart (show IsS81 w _ g281 t278 t293 t294 from by repeat (first | (with_reducible first | exact HI281.out | apply IsS81.alloc | apply IsS81.drewN | apply IsS81.drew | apply IsS81.set_1 | apply IsS81.set_2 | refine IsS81.far ?_ NB281_277.out _ | refine IsS81.far ?_ NB281_288.out _) | exact HI281.out)) (zR HO_289001.out) (by decide)) hk (fun _ h => h.2)) (fun _ h => h.1)) (KeepBut.blk hk (g' := gb277) (o := .cells #[.int .i64 0, .slice none 0 0] 26 (0, 0)) (zB BK277.out) NB277_281.out (by simp)) (KeepBut.blk hk (g' := gb288) (o := .cells #[.int .i64 t282, .slice Ao12 t283.length co12] 26 (0, 0)) (zB BK288.out) NB288_281.out (by simp)) (hb) (hi) ?_; clear HO_289001 BK277 BK288 HB HI281; intro HO_289001 BK277 BK288 HB HI281; (try clear hb); (try clear hb2); (try clear hk); (try clear hi)))
                  go_roundg k1
                  case measure => have := HK1.out; omega
                  case rel => exact ⟨(Go.bits .or .i64 x7_1 (ji18)), (x8_1), (wrap64 (x9_1 - 1)), (t299), (t300), (by first | rfl | (simp; done) | (simp only [← hji18] <;> (first | rfl | simp)) | (simp [*]; done)), (zF), (zF), H', ⟨by have := HK1.out; omega⟩, ⟨zR HO_289001.out⟩, ⟨zB BK277.out⟩, ⟨zB BK288.out⟩, ⟨by repeat (first | (with_reducible first | exact HI281.out | apply IsS81.alloc | apply IsS81.drewN | apply IsS81.drew | apply IsS81.set_1 | apply IsS81.set_2 | refine IsS81.far ?_ NB281_277.out _ | refine IsS81.far ?_ NB281_288.out _) | exact HI281.out)⟩, ⟨by repeat (first | (with_reducible first | exact HB.out | apply below_alloc | apply pw_below_drewN | apply below_drew1 | refine below_set ?_ (IsS81.ge HI281.out) | refine below_set ?_ GE277.out | refine below_set ?_ GE288.out) | exact HB.out)⟩⟩
                · rw [if_neg c26] at H
                  have c26b0 := zq3 c26
                  have c26b1 := zq4 c26
                  have H' := Aside0.mk H
                  clear H
                  have hnb34 := NB288_277.out
                  have hnc34 := NB277_288.out
                  have hnb35 := NB288_281.out
                  have hnc35 := NB281_288.out
                  obtain ⟨hcz36_0, hcz36_1⟩ := zc2 BK288
                  obtain ⟨hfz36_0, hfz36_1⟩ := zf2 BK288
                  go_wp2_with (first | ((with_reducible refine gate_callee (f := 41) rfl ?_); refine goesL_ (some 27) rfl rfl Try.func41 (by kernel_rfl) rfl #[.pointer (some ⟨g281, 0, none⟩), .int .i64 t282] rfl zM ?_; (with_reducible refine (spec_l01Next.calls g281 t278 x282001_1 x282002_1 t282 t292 t293 t294 w _ ?side1 ?side2 A15.out).mono ?_); (case side1 => repeat (first | (with_reducible first | exact HI281.out | apply IsS81.alloc | apply IsS81.drewN | apply IsS81.drew | apply IsS81.set_1 | apply IsS81.set_2 | refine IsS81.far ?_ NB281_277.out _ | refine IsS81.far ?_ NB281_288.out _) | exact HI281.out)); (case side2 => repeat (first | (with_reducible first | exact HB.out | apply below_alloc | apply pw_below_drewN | apply below_drew1 | refine below_set ?_ (IsS81.ge HI281.out) | refine below_set ?_ GE277.out | refine below_set ?_ GE288.out) | exact HB.out)); rintro e w37 ⟨rfl, hi, hb, hk⟩; refine ⟨_, rfl, ?_⟩; refine zA5 (Kd.R_mono (Kd.R_keep (IsS81.apart (show IsS81 w _ g281 t278 x282001_1 x282002_1 from by repeat (first | (with_reducible first | exact HI281.out | apply IsS81.alloc | apply IsS81.drewN | apply IsS81.drew | apply IsS81.set_1 | apply IsS81.set_2 | refine IsS81.far ?_ NB281_277.out _ | refine IsS81.far ?_ NB281_288.out _) | exact HI281.out)) (zR HO_289001.out) (by decide)) hk (fun _ h => h.2)) (fun _ h => h.1)) (KeepBut.blk hk (g' := gb277) (o := .cells #[.int .i64 0, .slice none 0 0] 26 (0, 0)) (zB BK277.out) NB277_281.out (by simp)) (KeepBut.blk hk (g' := gb288) (o := .cells #[.int .i64 t282, .slice Ao12 t283.length co12] 26 (0, 0)) (zB BK288.out) NB288_281.out (by simp)) (hb) (hi) ?_; clear HO_289001 BK277 BK288 HB HI281; intro HO_289001 BK277 BK288 HB HI281; (try clear hb); (try clear hb2); (try clear hk); (try clear hi)) | ((with_reducible refine gate_callee (f := 42) rfl ?_); refine goesL_ (some 38) rfl rfl Try.func42 (by kernel_rfl) rfl #[.int .i64 x7_1] rfl zM ?_; (with_reducible refine (spec_l07Ones.calls k1 x7_1 t295 _ A20.out).mono ?_); rintro e w' ⟨rfl, ⟨nd, rfl⟩⟩; refine ⟨_, rfl, ?_⟩) | ((with_reducible refine gate_callee (f := 42) rfl ?_); refine goesL_ (some 40) rfl rfl Try.func42 (by kernel_rfl) rfl #[.int .i64 x8_1] rfl zM ?_; (with_reducible refine (spec_l07Ones.calls k1 x8_1 t296 _ A21.out).mono ?_); rintro e w' ⟨rfl, ⟨nd, rfl⟩⟩; refine ⟨_, rfl, ?_⟩; obtain ⟨hcz38_0, hcz38_1⟩ := zc2 BK288; obtain ⟨hfz38_0, hfz38_1⟩ := zf2 BK288) | ((with_reducible refine gate_callee (f := 37) rfl ?_); refine goesL_ (some 46) rfl rfl Try.func37 (by kernel_rfl) rfl #[.agg #[.int .i64 t282, .slice Ao12 t283.length co12], .int .i64 (Go.bits .or .i64 x7_1 (ji18))] rfl (zM1 hji18) ?_; (with_reducible refine (spec_l07Fills.calls k1 t282 _ _ t283 (Go.bits .or .i64 x7_1 (ji18)) true _ ?side1 ?side2 A23.out).mono ?_); (case side1 => repeat (first | exact (Kd.R_reads' HO_289001.out).2.2 | (with_reducible refine Kd.C_alloc ?_ _) | (with_reducible refine Kd.C_drewN ?_ _) | (with_reducible refine Kd.C_drew ?_))); (case side2 => exact (Kd.R_reads' HO_289001.out).2.1); rintro e w39 ⟨rfl, hb⟩; refine ⟨_, rfl, ?_⟩; refine zA5 (Kd.R_below (zR HO_289001.out) hb) (blk_below (g := gb277) (o := .cells #[.int .i64 0, .slice none 0 0] 26 (0, 0)) (zB BK277.out) hb) (blk_below (g := gb288) (o := .cells #[.int .i64 t282, .slice Ao12 t283.length co12] 26 (0, 0)) (zB BK288.out) hb) (IsS81.below (by repeat (first | (with_reducible first | exact HI281.out | apply IsS81.alloc | apply IsS81.drewN | apply IsS81.drew | apply IsS81.set_1 | apply IsS81.set_2 | refine IsS81.far ?_ NB281_277.out _ | refine IsS81.far ?_ NB281_288.out _) | exact HI281.out)) hb) (below_step (by repeat (first | (with_reducible first | exact HB.out | apply below_alloc | apply pw_below_drewN | apply below_drew1 | refine below_set ?_ (IsS81.ge HI281.out) | refine below_set ?_ GE277.out | refine below_set ?_ GE288.out) | exact HB.out)) hb) ?_; clear HO_289001 BK277 BK288 HI281 HB; intro HO_289001 BK277 BK288 HI281 HB; (try clear hb); (try clear hb2); (try clear hk); (try clear hi)) | (go_at_call 41; (with_reducible refine (spec_l01Next.calls g281 t278 t293 t294 5 t298 t299 t300 w _ ?side1 ?side2 A25.out).mono ?_); (case side1 => repeat (first | (with_reducible first | exact HI281.out | apply IsS81.alloc | apply IsS81.drewN | apply IsS81.drew | apply IsS81.set_1 | apply IsS81.set_2 | refine IsS81.far ?_ NB281_277.out _ | refine IsS81.far ?_ NB281_288.out _) | exact HI281.out)); (case side2 => repeat (first | (with_reducible first | exact HB.out | apply below_alloc | apply pw_below_drewN | apply below_drew1 | refine below_set ?_ (IsS81.ge HI281.out) | refine below_set ?_ GE277.out | refine below_set ?_ GE288.out) | exact HB.out)); rintro e w40 ⟨rfl, hi, hb, hk⟩; refine zA5 (Kd.R_mono (Kd.R_keep (IsS81.apart (show IsS81 w _ g281 t278 t293 t294 from by repeat (first | (with_reducible first | exact HI281.out | apply IsS81.alloc | apply IsS81.drewN | apply IsS81.drew | apply IsS81.set_1 | apply IsS81.set_2 | refine IsS81.far ?_ NB281_277.out _ | refine IsS81.far ?_ NB281_288.out _) | exact HI281.out)) (zR HO_289001.out) (by decide)) hk (fun _ h => h.2)) (fun _ h => h.1)) (KeepBut.blk hk (g' := gb277) (o := .cells #[.int .i64 0, .slice none 0 0] 26 (0, 0)) (zB BK277.out) NB277_281.out (by simp)) (KeepBut.blk hk (g' := gb288) (o := .cells #[.int .i64 t282, .slice Ao12 t283.length co12] 26 (0, 0)) (zB BK288.out) NB288_281.out (by simp)) (hb) (hi) ?_; clear HO_289001 BK277 BK288 HB HI281; intro HO_289001 BK277 BK288 HB HI281; (try clear hb); (try clear hb2); (try clear hk); (try clear hi)))
                  go_roundg k1
                  case measure => have := HK1.out; omega
                  case rel => exact ⟨(x7_1), (x8_1), (wrap64 (x9_1 - 1)), (t299), (t300), (zF), (zF), (zF), H', ⟨by have := HK1.out; omega⟩, ⟨zR HO_289001.out⟩, ⟨zB BK277.out⟩, ⟨zB BK288.out⟩, ⟨by repeat (first | (with_reducible first | exact HI281.out | apply IsS81.alloc | apply IsS81.drewN | apply IsS81.drew | apply IsS81.set_1 | apply IsS81.set_2 | refine IsS81.far ?_ NB281_277.out _ | refine IsS81.far ?_ NB281_288.out _) | exact HI281.out)⟩, ⟨by repeat (first | (with_reducible first | exact HB.out | apply below_alloc | apply pw_below_drewN | apply below_drew1 | refine below_set ?_ (IsS81.ge HI281.out) | refine below_set ?_ GE277.out | refine below_set ?_ GE288.out) | exact HB.out)⟩⟩
              · replace c24 := Bool.eq_false_iff.mpr c24
                subst c24
                have H1 : (spec_l07With.l0 k1 (Go.bits .or .i64 x7_1 (ji18)) x8_1 (wrap64 (x9_1 - 1)) t278 t293 t294 t282 t283) = some (r1, r2, r3, r4) := by rw [if_neg (show ¬ (false = true) by decide)] at H; exact H
                clear H
                have H := H1
                clear H1
                have H' := Aside0.mk H
                clear H
                have hnb41 := NB288_277.out
                have hnc41 := NB277_288.out
                have hnb42 := NB288_281.out
                have hnc42 := NB281_288.out
                obtain ⟨hcz43_0, hcz43_1⟩ := zc2 BK288
                obtain ⟨hfz43_0, hfz43_1⟩ := zf2 BK288
                go_wp2_with (first | ((with_reducible refine gate_callee (f := 41) rfl ?_); refine goesL_ (some 27) rfl rfl Try.func41 (by kernel_rfl) rfl #[.pointer (some ⟨g281, 0, none⟩), .int .i64 t282] rfl zM ?_; (with_reducible refine (spec_l01Next.calls g281 t278 x282001_1 x282002_1 t282 t292 t293 t294 w _ ?side1 ?side2 A15.out).mono ?_); (case side1 => repeat (first | (with_reducible first | exact HI281.out | apply IsS81.alloc | apply IsS81.drewN | apply IsS81.drew | apply IsS81.set_1 | apply IsS81.set_2 | refine IsS81.far ?_ NB281_277.out _ | refine IsS81.far ?_ NB281_288.out _) | exact HI281.out)); (case side2 => repeat (first | (with_reducible first | exact HB.out | apply below_alloc | apply pw_below_drewN | apply below_drew1 | refine below_set ?_ (IsS81.ge HI281.out) | refine below_set ?_ GE277.out | refine below_set ?_ GE288.out) | exact HB.out)); rintro e w44 ⟨rfl, hi, hb, hk⟩; refine ⟨_, rfl, ?_⟩; refine zA5 (Kd.R_mono (Kd.R_keep (IsS81.apart (show IsS81 w _ g281 t278 x282001_1 x282002_1 from by repeat (first | (with_reducible first | exact HI281.out | apply IsS81.alloc | apply IsS81.drewN | apply IsS81.drew | apply IsS81.set_1 | apply IsS81.set_2 | refine IsS81.far ?_ NB281_277.out _ | refine IsS81.far ?_ NB281_288.out _) | exact HI281.out)) (zR HO_289001.out) (by decide)) hk (fun _ h => h.2)) (fun _ h => h.1)) (KeepBut.blk hk (g' := gb277) (o := .cells #[.int .i64 0, .slice none 0 0] 26 (0, 0)) (zB BK277.out) NB277_281.out (by simp)) (KeepBut.blk hk (g' := gb288) (o := .cells #[.int .i64 t282, .slice Ao12 t283.length co12] 26 (0, 0)) (zB BK288.out) NB288_281.out (by simp)) (hb) (hi) ?_; clear HO_289001 BK277 BK288 HB HI281; intro HO_289001 BK277 BK288 HB HI281; (try clear hb); (try clear hb2); (try clear hk); (try clear hi)) | ((with_reducible refine gate_callee (f := 42) rfl ?_); refine goesL_ (some 38) rfl rfl Try.func42 (by kernel_rfl) rfl #[.int .i64 x7_1] rfl zM ?_; (with_reducible refine (spec_l07Ones.calls k1 x7_1 t295 _ A20.out).mono ?_); rintro e w' ⟨rfl, ⟨nd, rfl⟩⟩; refine ⟨_, rfl, ?_⟩) | ((with_reducible refine gate_callee (f := 42) rfl ?_); refine goesL_ (some 40) rfl rfl Try.func42 (by kernel_rfl) rfl #[.int .i64 x8_1] rfl zM ?_; (with_reducible refine (spec_l07Ones.calls k1 x8_1 t296 _ A21.out).mono ?_); rintro e w' ⟨rfl, ⟨nd, rfl⟩⟩; refine ⟨_, rfl, ?_⟩; obtain ⟨hcz45_0, hcz45_1⟩ := zc2 BK288; obtain ⟨hfz45_0, hfz45_1⟩ := zf2 BK288) | ((with_reducible refine gate_callee (f := 37) rfl ?_); refine goesL_ (some 46) rfl rfl Try.func37 (by kernel_rfl) rfl #[.agg #[.int .i64 t282, .slice Ao12 t283.length co12], .int .i64 (Go.bits .or .i64 x7_1 (ji18))] rfl (zM1 hji18) ?_; (with_reducible refine (spec_l07Fills.calls k1 t282 _ _ t283 (Go.bits .or .i64 x7_1 (ji18)) false _ ?side1 ?side2 A23.out).mono ?_); (case side1 => repeat (first | exact (Kd.R_reads' HO_289001.out).2.2 | (with_reducible refine Kd.C_alloc ?_ _) | (with_reducible refine Kd.C_drewN ?_ _) | (with_reducible refine Kd.C_drew ?_))); (case side2 => exact (Kd.R_reads' HO_289001.out).2.1); rintro e w46 ⟨rfl, hb⟩; refine ⟨_, rfl, ?_⟩; refine zA5 (Kd.R_below (zR HO_289001.out) hb) (blk_below (g := gb277) (o := .cells #[.int .i64 0, .slice none 0 0] 26 (0, 0)) (zB BK277.out) hb) (blk_below (g := gb288) (o := .cells #[.int .i64 t282, .slice Ao12 t283.length co12] 26 (0, 0)) (zB BK288.out) hb) (IsS81.below (by repeat (first | (with_reducible first | exact HI281.out | apply IsS81.alloc | apply IsS81.drewN | apply IsS81.drew | apply IsS81.set_1 | apply IsS81.set_2 | refine IsS81.far ?_ NB281_277.out _ | refine IsS81.far ?_ NB281_288.out _) | exact HI281.out)) hb) (below_step (by repeat (first | (with_reducible first | exact HB.out | apply below_alloc | apply pw_below_drewN | apply below_drew1 | refine below_set ?_ (IsS81.ge HI281.out) | refine below_set ?_ GE277.out | refine below_set ?_ GE288.out) | exact HB.out)) hb) ?_; clear HO_289001 BK277 BK288 HI281 HB; intro HO_289001 BK277 BK288 HI281 HB; (try clear hb); (try clear hb2); (try clear hk); (try clear hi)))
                go_roundg k1
                case measure => have := HK1.out; omega
                case rel => exact ⟨(Go.bits .or .i64 x7_1 (ji18)), (x8_1), (wrap64 (x9_1 - 1)), (t293), (t294), (by first | rfl | (simp; done) | (simp only [← hji18] <;> (first | rfl | simp)) | (simp [*]; done)), (zF), (zF), H', ⟨by have := HK1.out; omega⟩, ⟨zR HO_289001.out⟩, ⟨zB BK277.out⟩, ⟨zB BK288.out⟩, ⟨by repeat (first | (with_reducible first | exact HI281.out | apply IsS81.alloc | apply IsS81.drewN | apply IsS81.drew | apply IsS81.set_1 | apply IsS81.set_2 | refine IsS81.far ?_ NB281_277.out _ | refine IsS81.far ?_ NB281_288.out _) | exact HI281.out)⟩, ⟨by repeat (first | (with_reducible first | exact HB.out | apply below_alloc | apply pw_below_drewN | apply below_drew1 | refine below_set ?_ (IsS81.ge HI281.out) | refine below_set ?_ GE277.out | refine below_set ?_ GE288.out) | exact HB.out)⟩⟩
            · rw [if_neg c22] at H
              have c22b0 := zq3 c22
              have c22b1 := zq4 c22
              obtain ⟨t301, A47, H⟩ := zb H
              by_cases c48 : t301 = true
              · subst c48
                have H1 : ((spec_l01Next.f t278 t293 t294 5).bind fun bt302 => (if bt302.1 = 0 then (spec_l07With.l0 k1 x7_1 (Go.bits .or .i64 x8_1 (ji18)) (wrap64 (x9_1 - 1)) t278 bt302.2.1 bt302.2.2 t282 t283) else (spec_l07With.l0 k1 x7_1 x8_1 (wrap64 (x9_1 - 1)) t278 bt302.2.1 bt302.2.2 t282 t283))) = some (r1, r2, r3, r4) := by rw [if_pos rfl] at H; exact H
                clear H
                have H := H1
                clear H1
                obtain ⟨⟨t302, t303, t304⟩, A49, H⟩ := zb H; (try dsimp only at H)
                by_cases c50 : t302 = 0
                · rw [if_pos c50] at H
                  have c50b0 := zq1 c50
                  have c50b1 := zq2 c50
                  clear c50
                  have H' := Aside0.mk H
                  clear H
                  have hnb51 := NB288_277.out
                  have hnc51 := NB277_288.out
                  have hnb52 := NB288_281.out
                  have hnc52 := NB281_288.out
                  obtain ⟨hcz53_0, hcz53_1⟩ := zc2 BK288
                  obtain ⟨hfz53_0, hfz53_1⟩ := zf2 BK288
                  go_wp2_with (first | ((with_reducible refine gate_callee (f := 41) rfl ?_); refine goesL_ (some 27) rfl rfl Try.func41 (by kernel_rfl) rfl #[.pointer (some ⟨g281, 0, none⟩), .int .i64 t282] rfl zM ?_; (with_reducible refine (spec_l01Next.calls g281 t278 x282001_1 x282002_1 t282 t292 t293 t294 w _ ?side1 ?side2 A15.out).mono ?_); (case side1 => repeat (first | (with_reducible first | exact HI281.out | apply IsS81.alloc | apply IsS81.drewN | apply IsS81.drew | apply IsS81.set_1 | apply IsS81.set_2 | refine IsS81.far ?_ NB281_277.out _ | refine IsS81.far ?_ NB281_288.out _) | exact HI281.out)); (case side2 => repeat (first | (with_reducible first | exact HB.out | apply below_alloc | apply pw_below_drewN | apply below_drew1 | refine below_set ?_ (IsS81.ge HI281.out) | refine below_set ?_ GE277.out | refine below_set ?_ GE288.out) | exact HB.out)); rintro e w54 ⟨rfl, hi, hb, hk⟩; refine ⟨_, rfl, ?_⟩; refine zA5 (Kd.R_mono (Kd.R_keep (IsS81.apart (show IsS81 w _ g281 t278 x282001_1 x282002_1 from by repeat (first | (with_reducible first | exact HI281.out | apply IsS81.alloc | apply IsS81.drewN | apply IsS81.drew | apply IsS81.set_1 | apply IsS81.set_2 | refine IsS81.far ?_ NB281_277.out _ | refine IsS81.far ?_ NB281_288.out _) | exact HI281.out)) (zR HO_289001.out) (by decide)) hk (fun _ h => h.2)) (fun _ h => h.1)) (KeepBut.blk hk (g' := gb277) (o := .cells #[.int .i64 0, .slice none 0 0] 26 (0, 0)) (zB BK277.out) NB277_281.out (by simp)) (KeepBut.blk hk (g' := gb288) (o := .cells #[.int .i64 t282, .slice Ao12 t283.length co12] 26 (0, 0)) (zB BK288.out) NB288_281.out (by simp)) (hb) (hi) ?_; clear HO_289001 BK277 BK288 HB HI281; intro HO_289001 BK277 BK288 HB HI281; (try clear hb); (try clear hb2); (try clear hk); (try clear hi)) | ((with_reducible refine gate_callee (f := 42) rfl ?_); refine goesL_ (some 38) rfl rfl Try.func42 (by kernel_rfl) rfl #[.int .i64 x7_1] rfl zM ?_; (with_reducible refine (spec_l07Ones.calls k1 x7_1 t295 _ A20.out).mono ?_); rintro e w' ⟨rfl, ⟨nd, rfl⟩⟩; refine ⟨_, rfl, ?_⟩) | ((with_reducible refine gate_callee (f := 42) rfl ?_); refine goesL_ (some 40) rfl rfl Try.func42 (by kernel_rfl) rfl #[.int .i64 x8_1] rfl zM ?_; (with_reducible refine (spec_l07Ones.calls k1 x8_1 t296 _ A21.out).mono ?_); rintro e w' ⟨rfl, ⟨nd, rfl⟩⟩; refine ⟨_, rfl, ?_⟩; obtain ⟨hcz55_0, hcz55_1⟩ := zc2 BK288; obtain ⟨hfz55_0, hfz55_1⟩ := zf2 BK288) | ((with_reducible refine gate_callee (f := 37) rfl ?_); refine goesL_ (some 60) rfl rfl Try.func37 (by kernel_rfl) rfl #[.agg #[.int .i64 t282, .slice Ao12 t283.length co12], .int .i64 (Go.bits .or .i64 x8_1 (ji18))] rfl (zM1 hji18) ?_; (with_reducible refine (spec_l07Fills.calls k1 t282 _ _ t283 (Go.bits .or .i64 x8_1 (ji18)) true _ ?side1 ?side2 A47.out).mono ?_); (case side1 => repeat (first | exact (Kd.R_reads' HO_289001.out).2.2 | (with_reducible refine Kd.C_alloc ?_ _) | (with_reducible refine Kd.C_drewN ?_ _) | (with_reducible refine Kd.C_drew ?_))); (case side2 => exact (Kd.R_reads' HO_289001.out).2.1); rintro e w56 ⟨rfl, hb⟩; refine ⟨_, rfl, ?_⟩; refine zA5 (Kd.R_below (zR HO_289001.out) hb) (blk_below (g := gb277) (o := .cells #[.int .i64 0, .slice none 0 0] 26 (0, 0)) (zB BK277.out) hb) (blk_below (g := gb288) (o := .cells #[.int .i64 t282, .slice Ao12 t283.length co12] 26 (0, 0)) (zB BK288.out) hb) (IsS81.below (by repeat (first | (with_reducible first | exact HI281.out | apply IsS81.alloc | apply IsS81.drewN | apply IsS81.drew | apply IsS81.set_1 | apply IsS81.set_2 | refine IsS81.far ?_ NB281_277.out _ | refine IsS81.far ?_ NB281_288.out _) | exact HI281.out)) hb) (below_step (by repeat (first | (with_reducible first | exact HB.out | apply below_alloc | apply pw_below_drewN | apply below_drew1 | refine below_set ?_ (IsS81.ge HI281.out) | refine below_set ?_ GE277.out | refine below_set ?_ GE288.out) | exact HB.out)) hb) ?_; clear HO_289001 BK277 BK288 HI281 HB; intro HO_289001 BK277 BK288 HI281 HB; (try clear hb); (try clear hb2); (try clear hk); (try clear hi)) | (go_at_call 41; (with_reducible refine (spec_l01Next.calls g281 t278 t293 t294 5 t302 t303 t304 w _ ?side1 ?side2 A49.out).mono ?_); (case side1 => repeat (first | (with_reducible first | exact HI281.out | apply IsS81.alloc | apply IsS81.drewN | apply IsS81.drew | apply IsS81.set_1 | apply IsS81.set_2 | refine IsS81.far ?_ NB281_277.out _ | refine IsS81.far ?_ NB281_288.out _) | exact HI281.out)); (case side2 => repeat (first | (with_reducible first | exact HB.out | apply below_alloc | apply pw_below_drewN | apply below_drew1 | refine below_set ?_ (IsS81.ge HI281.out) | refine below_set ?_ GE277.out | refine below_set ?_ GE288.out) | exact HB.out)); rintro e w57 ⟨rfl, hi, hb, hk⟩; refine zA5 (Kd.R_mono (Kd.R_keep (IsS81.apart (show IsS81 w _ g281 t278 t293 t294 from by repeat (first | (with_reducible first | exact HI281.out | apply IsS81.alloc | apply IsS81.drewN | apply IsS81.drew | apply IsS81.set_1 | apply IsS81.set_2 | refine IsS81.far ?_ NB281_277.out _ | refine IsS81.far ?_ NB281_288.out _) | exact HI281.out)) (zR HO_289001.out) (by decide)) hk (fun _ h => h.2)) (fun _ h => h.1)) (KeepBut.blk hk (g' := gb277) (o := .cells #[.int .i64 0, .slice none 0 0] 26 (0, 0)) (zB BK277.out) NB277_281.out (by simp)) (KeepBut.blk hk (g' := gb288) (o := .cells #[.int .i64 t282, .slice Ao12 t283.length co12] 26 (0, 0)) (zB BK288.out) NB288_281.out (by simp)) (hb) (hi) ?_; clear HO_289001 BK277 BK288 HB HI281; intro HO_289001 BK277 BK288 HB HI281; (try clear hb); (try clear hb2); (try clear hk); (try clear hi)))
                  go_roundg k1
                  case measure => have := HK1.out; omega
                  case rel => exact ⟨(x7_1), (Go.bits .or .i64 x8_1 (ji18)), (wrap64 (x9_1 - 1)), (t303), (t304), (zF), (by first | rfl | (simp; done) | (simp only [← hji18] <;> (first | rfl | simp)) | (simp [*]; done)), (zF), H', ⟨by have := HK1.out; omega⟩, ⟨zR HO_289001.out⟩, ⟨zB BK277.out⟩, ⟨zB BK288.out⟩, ⟨by repeat (first | (with_reducible first | exact HI281.out | apply IsS81.alloc | apply IsS81.drewN | apply IsS81.drew | apply IsS81.set_1 | apply IsS81.set_2 | refine IsS81.far ?_ NB281_277.out _ | refine IsS81.far ?_ NB281_288.out _) | exact HI281.out)⟩, ⟨by repeat (first | (with_reducible first | exact HB.out | apply below_alloc | apply pw_below_drewN | apply below_drew1 | refine below_set ?_ (IsS81.ge HI281.out) | refine below_set ?_ GE277.out | refine below_set ?_ GE288.out) | exact HB.out)⟩⟩
                · rw [if_neg c50] at H
                  have c50b0 := zq3 c50
                  have c50b1 := zq4 c50
                  have H' := Aside0.mk H
                  clear H
                  have hnb58 := NB288_277.out
                  have hnc58 := NB277_288.out
                  have hnb59 := NB288_281.out
                  have hnc59 := NB281_288.out
                  obtain ⟨hcz60_0, hcz60_1⟩ := zc2 BK288
                  obtain ⟨hfz60_0, hfz60_1⟩ := zf2 BK288
                  go_wp2_with (first | ((with_reducible refine gate_callee (f := 41) rfl ?_); refine goesL_ (some 27) rfl rfl Try.func41 (by kernel_rfl) rfl #[.pointer (some ⟨g281, 0, none⟩), .int .i64 t282] rfl zM ?_; (with_reducible refine (spec_l01Next.calls g281 t278 x282001_1 x282002_1 t282 t292 t293 t294 w _ ?side1 ?side2 A15.out).mono ?_); (case side1 => repeat (first | (with_reducible first | exact HI281.out | apply IsS81.alloc | apply IsS81.drewN | apply IsS81.drew | apply IsS81.set_1 | apply IsS81.set_2 | refine IsS81.far ?_ NB281_277.out _ | refine IsS81.far ?_ NB281_288.out _) | exact HI281.out)); (case side2 => repeat (first | (with_reducible first | exact HB.out | apply below_alloc | apply pw_below_drewN | apply below_drew1 | refine below_set ?_ (IsS81.ge HI281.out) | refine below_set ?_ GE277.out | refine below_set ?_ GE288.out) | exact HB.out)); rintro e w61 ⟨rfl, hi, hb, hk⟩; refine ⟨_, rfl, ?_⟩; refine zA5 (Kd.R_mono (Kd.R_keep (IsS81.apart (show IsS81 w _ g281 t278 x282001_1 x282002_1 from by repeat (first | (with_reducible first | exact HI281.out | apply IsS81.alloc | apply IsS81.drewN | apply IsS81.drew | apply IsS81.set_1 | apply IsS81.set_2 | refine IsS81.far ?_ NB281_277.out _ | refine IsS81.far ?_ NB281_288.out _) | exact HI281.out)) (zR HO_289001.out) (by decide)) hk (fun _ h => h.2)) (fun _ h => h.1)) (KeepBut.blk hk (g' := gb277) (o := .cells #[.int .i64 0, .slice none 0 0] 26 (0, 0)) (zB BK277.out) NB277_281.out (by simp)) (KeepBut.blk hk (g' := gb288) (o := .cells #[.int .i64 t282, .slice Ao12 t283.length co12] 26 (0, 0)) (zB BK288.out) NB288_281.out (by simp)) (hb) (hi) ?_; clear HO_289001 BK277 BK288 HB HI281; intro HO_289001 BK277 BK288 HB HI281; (try clear hb); (try clear hb2); (try clear hk); (try clear hi)) | ((with_reducible refine gate_callee (f := 42) rfl ?_); refine goesL_ (some 38) rfl rfl Try.func42 (by kernel_rfl) rfl #[.int .i64 x7_1] rfl zM ?_; (with_reducible refine (spec_l07Ones.calls k1 x7_1 t295 _ A20.out).mono ?_); rintro e w' ⟨rfl, ⟨nd, rfl⟩⟩; refine ⟨_, rfl, ?_⟩) | ((with_reducible refine gate_callee (f := 42) rfl ?_); refine goesL_ (some 40) rfl rfl Try.func42 (by kernel_rfl) rfl #[.int .i64 x8_1] rfl zM ?_; (with_reducible refine (spec_l07Ones.calls k1 x8_1 t296 _ A21.out).mono ?_); rintro e w' ⟨rfl, ⟨nd, rfl⟩⟩; refine ⟨_, rfl, ?_⟩; obtain ⟨hcz62_0, hcz62_1⟩ := zc2 BK288; obtain ⟨hfz62_0, hfz62_1⟩ := zf2 BK288) | ((with_reducible refine gate_callee (f := 37) rfl ?_); refine goesL_ (some 60) rfl rfl Try.func37 (by kernel_rfl) rfl #[.agg #[.int .i64 t282, .slice Ao12 t283.length co12], .int .i64 (Go.bits .or .i64 x8_1 (ji18))] rfl (zM1 hji18) ?_; (with_reducible refine (spec_l07Fills.calls k1 t282 _ _ t283 (Go.bits .or .i64 x8_1 (ji18)) true _ ?side1 ?side2 A47.out).mono ?_); (case side1 => repeat (first | exact (Kd.R_reads' HO_289001.out).2.2 | (with_reducible refine Kd.C_alloc ?_ _) | (with_reducible refine Kd.C_drewN ?_ _) | (with_reducible refine Kd.C_drew ?_))); (case side2 => exact (Kd.R_reads' HO_289001.out).2.1); rintro e w63 ⟨rfl, hb⟩; refine ⟨_, rfl, ?_⟩; refine zA5 (Kd.R_below (zR HO_289001.out) hb) (blk_below (g := gb277) (o := .cells #[.int .i64 0, .slice none 0 0] 26 (0, 0)) (zB BK277.out) hb) (blk_below (g := gb288) (o := .cells #[.int .i64 t282, .slice Ao12 t283.length co12] 26 (0, 0)) (zB BK288.out) hb) (IsS81.below (by repeat (first | (with_reducible first | exact HI281.out | apply IsS81.alloc | apply IsS81.drewN | apply IsS81.drew | apply IsS81.set_1 | apply IsS81.set_2 | refine IsS81.far ?_ NB281_277.out _ | refine IsS81.far ?_ NB281_288.out _) | exact HI281.out)) hb) (below_step (by repeat (first | (with_reducible first | exact HB.out | apply below_alloc | apply pw_below_drewN | apply below_drew1 | refine below_set ?_ (IsS81.ge HI281.out) | refine below_set ?_ GE277.out | refine below_set ?_ GE288.out) | exact HB.out)) hb) ?_; clear HO_289001 BK277 BK288 HI281 HB; intro HO_289001 BK277 BK288 HI281 HB; (try clear hb); (try clear hb2); (try clear hk); (try clear hi)) | (go_at_call 41; (with_reducible refine (spec_l01Next.calls g281 t278 t293 t294 5 t302 t303 t304 w _ ?side1 ?side2 A49.out).mono ?_); (case side1 => repeat (first | (with_reducible first | exact HI281.out | apply IsS81.alloc | apply IsS81.drewN | apply IsS81.drew | apply IsS81.set_1 | apply IsS81.set_2 | refine IsS81.far ?_ NB281_277.out _ | refine IsS81.far ?_ NB281_288.out _) | exact HI281.out)); (case side2 => repeat (first | (with_reducible first | exact HB.out | apply below_alloc | apply pw_below_drewN | apply below_drew1 | refine below_set ?_ (IsS81.ge HI281.out) | refine below_set ?_ GE277.out | refine below_set ?_ GE288.out) | exact HB.out)); rintro e w64 ⟨rfl, hi, hb, hk⟩; refine zA5 (Kd.R_mono (Kd.R_keep (IsS81.apart (show IsS81 w _ g281 t278 t293 t294 from by repeat (first | (with_reducible first | exact HI281.out | apply IsS81.alloc | apply IsS81.drewN | apply IsS81.drew | apply IsS81.set_1 | apply IsS81.set_2 | refine IsS81.far ?_ NB281_277.out _ | refine IsS81.far ?_ NB281_288.out _) | exact HI281.out)) (zR HO_289001.out) (by decide)) hk (fun _ h => h.2)) (fun _ h => h.1)) (KeepBut.blk hk (g' := gb277) (o := .cells #[.int .i64 0, .slice none 0 0] 26 (0, 0)) (zB BK277.out) NB277_281.out (by simp)) (KeepBut.blk hk (g' := gb288) (o := .cells #[.int .i64 t282, .slice Ao12 t283.length co12] 26 (0, 0)) (zB BK288.out) NB288_281.out (by simp)) (hb) (hi) ?_; clear HO_289001 BK277 BK288 HB HI281; intro HO_289001 BK277 BK288 HB HI281; (try clear hb); (try clear hb2); (try clear hk); (try clear hi)))
                  go_roundg k1
                  case measure => have := HK1.out; omega
                  case rel => exact ⟨(x7_1), (x8_1), (wrap64 (x9_1 - 1)), (t303), (t304), (zF), (zF), (zF), H', ⟨by have := HK1.out; omega⟩, ⟨zR HO_289001.out⟩, ⟨zB BK277.out⟩, ⟨zB BK288.out⟩, ⟨by repeat (first | (with_reducible first | exact HI281.out | apply IsS81.alloc | apply IsS81.drewN | apply IsS81.drew | apply IsS81.set_1 | apply IsS81.set_2 | refine IsS81.far ?_ NB281_277.out _ | refine IsS81.far ?_ NB281_288.out _) | exact HI281.out)⟩, ⟨by repeat (first | (with_reducible first | exact HB.out | apply below_alloc | apply pw_below_drewN | apply below_drew1 | refine below_set ?_ (IsS81.ge HI281.out) | refine below_set ?_ GE277.out | refine below_set ?_ GE288.out) | exact HB.out)⟩⟩
              · replace c48 := Bool.eq_false_iff.mpr c48
                subst c48
                have H1 : (spec_l07With.l0 k1 x7_1 (Go.bits .or .i64 x8_1 (ji18)) (wrap64 (x9_1 - 1)) t278 t293 t294 t282 t283) = some (r1, r2, r3, r4) := by rw [if_neg (show ¬ (false = true) by decide)] at H; exact H
                clear H
                have H := H1
                clear H1
                have H' := Aside0.mk H
                clear H
                have hnb65 := NB288_277.out
                have hnc65 := NB277_288.out
                have hnb66 := NB288_281.out
                have hnc66 := NB281_288.out
                obtain ⟨hcz67_0, hcz67_1⟩ := zc2 BK288
                obtain ⟨hfz67_0, hfz67_1⟩ := zf2 BK288
                go_wp2_with (first | ((with_reducible refine gate_callee (f := 41) rfl ?_); refine goesL_ (some 27) rfl rfl Try.func41 (by kernel_rfl) rfl #[.pointer (some ⟨g281, 0, none⟩), .int .i64 t282] rfl zM ?_; (with_reducible refine (spec_l01Next.calls g281 t278 x282001_1 x282002_1 t282 t292 t293 t294 w _ ?side1 ?side2 A15.out).mono ?_); (case side1 => repeat (first | (with_reducible first | exact HI281.out | apply IsS81.alloc | apply IsS81.drewN | apply IsS81.drew | apply IsS81.set_1 | apply IsS81.set_2 | refine IsS81.far ?_ NB281_277.out _ | refine IsS81.far ?_ NB281_288.out _) | exact HI281.out)); (case side2 => repeat (first | (with_reducible first | exact HB.out | apply below_alloc | apply pw_below_drewN | apply below_drew1 | refine below_set ?_ (IsS81.ge HI281.out) | refine below_set ?_ GE277.out | refine below_set ?_ GE288.out) | exact HB.out)); rintro e w68 ⟨rfl, hi, hb, hk⟩; refine ⟨_, rfl, ?_⟩; refine zA5 (Kd.R_mono (Kd.R_keep (IsS81.apart (show IsS81 w _ g281 t278 x282001_1 x282002_1 from by repeat (first | (with_reducible first | exact HI281.out | apply IsS81.alloc | apply IsS81.drewN | apply IsS81.drew | apply IsS81.set_1 | apply IsS81.set_2 | refine IsS81.far ?_ NB281_277.out _ | refine IsS81.far ?_ NB281_288.out _) | exact HI281.out)) (zR HO_289001.out) (by decide)) hk (fun _ h => h.2)) (fun _ h => h.1)) (KeepBut.blk hk (g' := gb277) (o := .cells #[.int .i64 0, .slice none 0 0] 26 (0, 0)) (zB BK277.out) NB277_281.out (by simp)) (KeepBut.blk hk (g' := gb288) (o := .cells #[.int .i64 t282, .slice Ao12 t283.length co12] 26 (0, 0)) (zB BK288.out) NB288_281.out (by simp)) (hb) (hi) ?_; clear HO_289001 BK277 BK288 HB HI281; intro HO_289001 BK277 BK288 HB HI281; (try clear hb); (try clear hb2); (try clear hk); (try clear hi)) | ((with_reducible refine gate_callee (f := 42) rfl ?_); refine goesL_ (some 38) rfl rfl Try.func42 (by kernel_rfl) rfl #[.int .i64 x7_1] rfl zM ?_; (with_reducible refine (spec_l07Ones.calls k1 x7_1 t295 _ A20.out).mono ?_); rintro e w' ⟨rfl, ⟨nd, rfl⟩⟩; refine ⟨_, rfl, ?_⟩) | ((with_reducible refine gate_callee (f := 42) rfl ?_); refine goesL_ (some 40) rfl rfl Try.func42 (by kernel_rfl) rfl #[.int .i64 x8_1] rfl zM ?_; (with_reducible refine (spec_l07Ones.calls k1 x8_1 t296 _ A21.out).mono ?_); rintro e w' ⟨rfl, ⟨nd, rfl⟩⟩; refine ⟨_, rfl, ?_⟩; obtain ⟨hcz69_0, hcz69_1⟩ := zc2 BK288; obtain ⟨hfz69_0, hfz69_1⟩ := zf2 BK288) | ((with_reducible refine gate_callee (f := 37) rfl ?_); refine goesL_ (some 60) rfl rfl Try.func37 (by kernel_rfl) rfl #[.agg #[.int .i64 t282, .slice Ao12 t283.length co12], .int .i64 (Go.bits .or .i64 x8_1 (ji18))] rfl (zM1 hji18) ?_; (with_reducible refine (spec_l07Fills.calls k1 t282 _ _ t283 (Go.bits .or .i64 x8_1 (ji18)) false _ ?side1 ?side2 A47.out).mono ?_); (case side1 => repeat (first | exact (Kd.R_reads' HO_289001.out).2.2 | (with_reducible refine Kd.C_alloc ?_ _) | (with_reducible refine Kd.C_drewN ?_ _) | (with_reducible refine Kd.C_drew ?_))); (case side2 => exact (Kd.R_reads' HO_289001.out).2.1); rintro e w70 ⟨rfl, hb⟩; refine ⟨_, rfl, ?_⟩; refine zA5 (Kd.R_below (zR HO_289001.out) hb) (blk_below (g := gb277) (o := .cells #[.int .i64 0, .slice none 0 0] 26 (0, 0)) (zB BK277.out) hb) (blk_below (g := gb288) (o := .cells #[.int .i64 t282, .slice Ao12 t283.length co12] 26 (0, 0)) (zB BK288.out) hb) (IsS81.below (by repeat (first | (with_reducible first | exact HI281.out | apply IsS81.alloc | apply IsS81.drewN | apply IsS81.drew | apply IsS81.set_1 | apply IsS81.set_2 | refine IsS81.far ?_ NB281_277.out _ | refine IsS81.far ?_ NB281_288.out _) | exact HI281.out)) hb) (below_step (by repeat (first | (with_reducible first | exact HB.out | apply below_alloc | apply pw_below_drewN | apply below_drew1 | refine below_set ?_ (IsS81.ge HI281.out) | refine below_set ?_ GE277.out | refine below_set ?_ GE288.out) | exact HB.out)) hb) ?_; clear HO_289001 BK277 BK288 HI281 HB; intro HO_289001 BK277 BK288 HI281 HB; (try clear hb); (try clear hb2); (try clear hk); (try clear hi)))
                go_roundg k1
                case measure => have := HK1.out; omega
                case rel => exact ⟨(x7_1), (Go.bits .or .i64 x8_1 (ji18)), (wrap64 (x9_1 - 1)), (t293), (t294), (zF), (by first | rfl | (simp; done) | (simp only [← hji18] <;> (first | rfl | simp)) | (simp [*]; done)), (zF), H', ⟨by have := HK1.out; omega⟩, ⟨zR HO_289001.out⟩, ⟨zB BK277.out⟩, ⟨zB BK288.out⟩, ⟨by repeat (first | (with_reducible first | exact HI281.out | apply IsS81.alloc | apply IsS81.drewN | apply IsS81.drew | apply IsS81.set_1 | apply IsS81.set_2 | refine IsS81.far ?_ NB281_277.out _ | refine IsS81.far ?_ NB281_288.out _) | exact HI281.out)⟩, ⟨by repeat (first | (with_reducible first | exact HB.out | apply below_alloc | apply pw_below_drewN | apply below_drew1 | refine below_set ?_ (IsS81.ge HI281.out) | refine below_set ?_ GE277.out | refine below_set ?_ GE288.out) | exact HB.out)⟩⟩
          · rw [if_neg c19] at H
            have c19b0 := zq3 c19
            have c19b1 := zq4 c19
            have H' := Aside0.mk H
            clear H
            have hnb71 := NB288_277.out
            have hnc71 := NB277_288.out
            have hnb72 := NB288_281.out
            have hnc72 := NB281_288.out
            obtain ⟨hcz73_0, hcz73_1⟩ := zc2 BK288
            obtain ⟨hfz73_0, hfz73_1⟩ := zf2 BK288
            go_wp2_with (first | ((with_reducible refine gate_callee (f := 41) rfl ?_); refine goesL_ (some 27) rfl rfl Try.func41 (by kernel_rfl) rfl #[.pointer (some ⟨g281, 0, none⟩), .int .i64 t282] rfl zM ?_; (with_reducible refine (spec_l01Next.calls g281 t278 x282001_1 x282002_1 t282 t292 t293 t294 w _ ?side1 ?side2 A15.out).mono ?_); (case side1 => repeat (first | (with_reducible first | exact HI281.out | apply IsS81.alloc | apply IsS81.drewN | apply IsS81.drew | apply IsS81.set_1 | apply IsS81.set_2 | refine IsS81.far ?_ NB281_277.out _ | refine IsS81.far ?_ NB281_288.out _) | exact HI281.out)); (case side2 => repeat (first | (with_reducible first | exact HB.out | apply below_alloc | apply pw_below_drewN | apply below_drew1 | refine below_set ?_ (IsS81.ge HI281.out) | refine below_set ?_ GE277.out | refine below_set ?_ GE288.out) | exact HB.out)); rintro e w74 ⟨rfl, hi, hb, hk⟩; refine ⟨_, rfl, ?_⟩; refine zA5 (Kd.R_mono (Kd.R_keep (IsS81.apart (show IsS81 w _ g281 t278 x282001_1 x282002_1 from by repeat (first | (with_reducible first | exact HI281.out | apply IsS81.alloc | apply IsS81.drewN | apply IsS81.drew | apply IsS81.set_1 | apply IsS81.set_2 | refine IsS81.far ?_ NB281_277.out _ | refine IsS81.far ?_ NB281_288.out _) | exact HI281.out)) (zR HO_289001.out) (by decide)) hk (fun _ h => h.2)) (fun _ h => h.1)) (KeepBut.blk hk (g' := gb277) (o := .cells #[.int .i64 0, .slice none 0 0] 26 (0, 0)) (zB BK277.out) NB277_281.out (by simp)) (KeepBut.blk hk (g' := gb288) (o := .cells #[.int .i64 t282, .slice Ao12 t283.length co12] 26 (0, 0)) (zB BK288.out) NB288_281.out (by simp)) (hb) (hi) ?_; clear HO_289001 BK277 BK288 HB HI281; intro HO_289001 BK277 BK288 HB HI281; (try clear hb); (try clear hb2); (try clear hk); (try clear hi)))
            go_roundg k1
            case measure => have := HK1.out; omega
            case rel => exact ⟨(x7_1), (x8_1), (wrap64 (x9_1 - 1)), (t293), (t294), (zF), (zF), (zF), H', ⟨by have := HK1.out; omega⟩, ⟨zR HO_289001.out⟩, ⟨zB BK277.out⟩, ⟨zB BK288.out⟩, ⟨by repeat (first | (with_reducible first | exact HI281.out | apply IsS81.alloc | apply IsS81.drewN | apply IsS81.drew | apply IsS81.set_1 | apply IsS81.set_2 | refine IsS81.far ?_ NB281_277.out _ | refine IsS81.far ?_ NB281_288.out _) | exact HI281.out)⟩, ⟨by repeat (first | (with_reducible first | exact HB.out | apply below_alloc | apply pw_below_drewN | apply below_drew1 | refine below_set ?_ (IsS81.ge HI281.out) | refine below_set ?_ GE277.out | refine below_set ?_ GE288.out) | exact HB.out)⟩⟩
        · rw [if_neg c17] at H
          exact absurd H (by simp)
      · rw [if_neg c14] at H
        have c14b0 := decide_eq_false c14
        clear c14
        obtain ⟨⟨t305, t306, t307⟩, A75, H⟩ := zb H; (try dsimp only at H)
        by_cases c76 : t305 = 0
        · rw [if_pos c76] at H
          have c76b0 := zq1 c76
          have c76b1 := zq2 c76
          clear c76
          obtain ⟨ji77, hji77⟩ := zj (IntKind.u64.wrap (t282))
          (first | rw [hji77] at H | simp only [hji77] at H)
          (try rw [hji77] at A75)
          by_cases c78 : 0 ≤ (ji77)
          · rw [if_pos c78] at H
            have c78b0 := eq_true c78
            have c78b1 := decide_eq_true c78
            clear c78
            obtain ⟨ji79, hji79⟩ := zj (shl .i64 1 (ji77))
            (first | rw [hji79] at H | simp only [hji79] at H)
            (try rw [hji79] at A75)
            have hji79_ : (IntKind.i64.wrap (1 * 2 ^ min (ji77).toNat 64)) = ji79 := hji79
            have hji79z : (ji77) ≤ 64 → (IntKind.i64.wrap (1 * 2 ^ (ji77).toNat)) = ji79 := shl_small hji79
            have hji79u : (IntKind.i64.wrap (2 ^ min (ji77).toNat 64)) = ji79 := by have h_ := hji79_; rw [Int.one_mul] at h_; exact h_
            have hji79v : (ji77) ≤ 64 → (IntKind.i64.wrap (2 ^ (ji77).toNat)) = ji79 := fun hle_ => by have h_ := hji79z hle_; rw [Int.one_mul] at h_; exact h_
            have hji79y : (wrap64 (1 * 2 ^ min (ji77).toNat 64)) = ji79 := (i64_w _).symm.trans hji79_
            have hji79x : (ji77) ≤ 64 → (wrap64 (1 * 2 ^ (ji77).toNat)) = ji79 := fun h_ => (i64_w _).symm.trans (hji79z h_)
            obtain ⟨y308, hy308⟩ : ∃ y_ : List Int, y_ = (([(-1), ji79, x8_1, 3] : List Int)) := ⟨_, rfl⟩
            replace H : ((spec_l01Pick.f t278 t306 t307 y308).bind fun bt311 => ((spec_l07Bad.f t278 bt311.2.1 bt311.2.2 t282 t283).bind fun bt314 => (some (bt314.1, bt314.2.1, bt311.1, x8_1)))) = some (r1, r2, r3, r4) := by first | (rw [hy308]; with_reducible exact H) | (have H2_ := (Option.bind_some _ _).symm.trans H; rw [hy308]; with_reducible exact H2_) | (have H2_ := (Option.bind_some _ _).symm.trans H; with_reducible exact H2_) | with_reducible exact H | (rw [hy308]; exact H) | exact H
            have Ny308 := Aside0.mk hy308
            clear hy308
            obtain ⟨⟨t311, t312, t313⟩, A80, H⟩ := zb H; (try dsimp only at H)
            obtain ⟨⟨t314, t315, t318, t319⟩, A81, H⟩ := zb H; (try dsimp only at H)
            simp only [Option.some.injEq, Prod.mk.injEq] at H
            obtain ⟨rfl, rfl, rfl, rfl⟩ := H
            go_wp2_with (first | ((with_reducible refine gate_callee (f := 41) rfl ?_); refine goesL_ (some 71) rfl rfl Try.func41 (by kernel_rfl) rfl #[.pointer (some ⟨g281, 0, none⟩), .int .i64 20] rfl zM ?_; (with_reducible refine (spec_l01Next.calls g281 t278 x282001_1 x282002_1 20 t305 t306 t307 w _ ?side1 ?side2 A75.out).mono ?_); (case side1 => repeat (first | (with_reducible first | exact HI281.out | apply IsS81.alloc | apply IsS81.drewN | apply IsS81.drew | apply IsS81.set_1 | apply IsS81.set_2 | refine IsS81.far ?_ NB281_277.out _ | refine IsS81.far ?_ NB281_288.out _) | exact HI281.out)); (case side2 => repeat (first | (with_reducible first | exact HB.out | apply below_alloc | apply pw_below_drewN | apply below_drew1 | refine below_set ?_ (IsS81.ge HI281.out) | refine below_set ?_ GE277.out | refine below_set ?_ GE288.out) | exact HB.out)); rintro e w82 ⟨rfl, hi, hb, hk⟩; refine ⟨_, rfl, ?_⟩; refine zA5 (Kd.R_mono (Kd.R_keep (IsS81.apart (show IsS81 w _ g281 t278 x282001_1 x282002_1 from by repeat (first | (with_reducible first | exact HI281.out | apply IsS81.alloc | apply IsS81.drewN | apply IsS81.drew | apply IsS81.set_1 | apply IsS81.set_2 | refine IsS81.far ?_ NB281_277.out _ | refine IsS81.far ?_ NB281_288.out _) | exact HI281.out)) (zR HO_289001.out) (by decide)) hk (fun _ h => h.2)) (fun _ h => h.1)) (KeepBut.blk hk (g' := gb277) (o := .cells #[.int .i64 0, .slice none 0 0] 26 (0, 0)) (zB BK277.out) NB277_281.out (by simp)) (KeepBut.blk hk (g' := gb288) (o := .cells #[.int .i64 t282, .slice Ao12 t283.length co12] 26 (0, 0)) (zB BK288.out) NB288_281.out (by simp)) (hb) (hi) ?_; clear HO_289001 BK277 BK288 HB HI281; intro HO_289001 BK277 BK288 HB HI281; (try clear hb); (try clear hb2); (try clear hk); (try clear hi); have hnb83 := NB288_277.out; have hnc83 := NB277_288.out; have hnb84 := NB288_281.out; have hnc84 := NB281_288.out; obtain ⟨hcz85_0, hcz85_1⟩ := zc2 BK288; obtain ⟨hfz85_0, hfz85_1⟩ := zf2 BK288) | ((with_reducible refine gate_dst (N := 80) rfl ?_); refine Kd.R_lit (Kd.int .i64) _ 2 ?hg (N := 80) ?hd (xs := ([(-1), ji79, x8_1, 3] : List Int)) (inner := [.int .i64 (-1), .int .i64 ji79, .int .i64 x8_1, .int .i64 3]) (ok := fun _ => True) (okp := fun _ => True) ?hr ?hp (fun _ hk => hk) trivial (Below.refl _ _) (Nat.le_refl _) (by simp) ?_; (case hd => rfl); (case hg => rfl); (case hr => first | (go_simp; done) | (go_simp; rfl)); (case hp => exact (Reps.one (show Kd.M (Kd.int .i64) _ _ _ (-1) [.int .i64 (-1)] from rfl) (Reps.one (show Kd.M (Kd.int .i64) _ _ _ ji79 [.int .i64 ji79] from rfl) (Reps.one (show Kd.M (Kd.int .i64) _ _ _ x8_1 [.int .i64 x8_1] from rfl) (Reps.one (show Kd.M (Kd.int .i64) _ _ _ 3 [.int .i64 3] from rfl) (Reps.none _ _)))))); intro v309 w86 ho87 hb hg_ hnew_; clear hg_ hnew_; (first | rw [← Ny308.out] at ho87 | (simp only [Int.reduceToNat] at ho87; rw [← Ny308.out] at ho87)); refine zA6 (Kd.R_elder' (zR HO_289001.out) (Kd.R_base ho87) hb) (Kd.R_lower (Kd.R_new' ho87 (Kd.R_lt (zR HO_289001.out))) (below_size (by repeat (first | (with_reducible first | exact HB.out | apply below_alloc | apply pw_below_drewN | apply below_drew1 | refine below_set ?_ (IsS81.ge HI281.out) | refine below_set ?_ GE277.out | refine below_set ?_ GE288.out) | exact HB.out)))) (blk_below (g := gb277) (o := .cells #[.int .i64 0, .slice none 0 0] 26 (0, 0)) (zB BK277.out) hb) (blk_below (g := gb288) (o := .cells #[.int .i64 t282, .slice Ao12 t283.length co12] 26 (0, 0)) (zB BK288.out) hb) (IsS81.below (by repeat (first | (with_reducible first | exact HI281.out | apply IsS81.alloc | apply IsS81.drewN | apply IsS81.drew | apply IsS81.set_1 | apply IsS81.set_2 | refine IsS81.far ?_ NB281_277.out _ | refine IsS81.far ?_ NB281_288.out _) | exact HI281.out)) hb) (below_step (by repeat (first | (with_reducible first | exact HB.out | apply below_alloc | apply pw_below_drewN | apply below_drew1 | refine below_set ?_ (IsS81.ge HI281.out) | refine below_set ?_ GE277.out | refine below_set ?_ GE288.out) | exact HB.out)) hb) ?_; clear HO_289001 BK277 BK288 HI281 HB; intro HO_289001 HO310 BK277 BK288 HI281 HB; clear hb ho87; obtain ⟨Ao88, co88, eo88⟩ := Kd.R_slice HO310.out; subst eo88) | ((with_reducible refine gate_callee (f := 43) rfl ?_); refine goesL_ (some 81) rfl rfl Try.func43 (by kernel_rfl) rfl #[.pointer (some ⟨g281, 0, none⟩), .slice Ao88 y308.length co88] rfl zM ?_; (with_reducible refine (spec_l01Pick.calls g281 t278 t306 t307 _ _ y308 t311 t312 t313 w _ ?side1 ?side2 ?side3 ?side4 ?side5 A80.out).mono ?_); (case side1 => repeat (first | (with_reducible first | exact HI281.out | apply IsS81.alloc | apply IsS81.drewN | apply IsS81.drew | apply IsS81.set_1 | apply IsS81.set_2 | refine IsS81.far ?_ NB281_277.out _ | refine IsS81.far ?_ NB281_288.out _) | exact HI281.out)); (case side2 => repeat (first | (with_reducible first | exact HB.out | apply below_alloc | apply pw_below_drewN | apply below_drew1 | refine below_set ?_ (IsS81.ge HI281.out) | refine below_set ?_ GE277.out | refine below_set ?_ GE288.out) | exact HB.out)); (case side3 => repeat (first | exact (Kd.R_reads' HO310.out).2.2 | (with_reducible refine Kd.C_alloc ?_ _) | (with_reducible refine Kd.C_drewN ?_ _) | (with_reducible refine Kd.C_drew ?_))); (case side4 => exact (Kd.R_reads' HO310.out).2.1); (case side5 => exact far_slice (IsS81.own_ne HI281.out HO310.out (by decide))); rintro e w89 ⟨rfl, hi, hb, hk⟩; refine ⟨_, rfl, ?_⟩; refine zA6 (Kd.R_mono (Kd.R_keep (IsS81.apart (show IsS81 w _ g281 t278 t306 t307 from by repeat (first | (with_reducible first | exact HI281.out | apply IsS81.alloc | apply IsS81.drewN | apply IsS81.drew | apply IsS81.set_1 | apply IsS81.set_2 | refine IsS81.far ?_ NB281_277.out _ | refine IsS81.far ?_ NB281_288.out _) | exact HI281.out)) (zR HO_289001.out) (by decide)) hk (fun _ h => h.2)) (fun _ h => h.1)) (KeepBut.blk hk (g' := gb277) (o := .cells #[.int .i64 0, .slice none 0 0] 26 (0, 0)) (zB BK277.out) NB277_281.out (by simp)) (KeepBut.blk hk (g' := gb288) (o := .cells #[.int .i64 t282, .slice Ao12 t283.length co12] 26 (0, 0)) (zB BK288.out) NB288_281.out (by simp)) (Kd.R_mono (Kd.R_keep (IsS81.apart (show IsS81 w _ g281 t278 t306 t307 from by repeat (first | (with_reducible first | exact HI281.out | apply IsS81.alloc | apply IsS81.drewN | apply IsS81.drew | apply IsS81.set_1 | apply IsS81.set_2 | refine IsS81.far ?_ NB281_277.out _ | refine IsS81.far ?_ NB281_288.out _) | exact HI281.out)) (zR HO310.out) (by decide)) hk (fun _ h => h.2)) (fun _ h => h.1)) (hb) (hi) ?_; clear HO_289001 BK277 BK288 HO310 HB HI281; intro HO_289001 BK277 BK288 HO310 HB HI281; (try clear hb); (try clear hb2); (try clear hk); (try clear hi); obtain ⟨hcz90_0, hcz90_1⟩ := zc2 BK288; obtain ⟨hfz90_0, hfz90_1⟩ := zf2 BK288) | ((with_reducible refine gate_callee (f := 44) rfl ?_); refine goesL_ (some 94) rfl rfl Try.func44 (by kernel_rfl) rfl #[.pointer (some ⟨g281, 0, none⟩), .agg #[.int .i64 t282, .slice Ao12 t283.length co12]] rfl zM ?_; (with_reducible refine (spec_l07Bad.calls g281 t278 t312 t313 t282 _ _ t283 t314 t315 t318 t319 w _ ?side1 ?side2 ?side3 ?side4 ?side5 A81.out).mono ?_); (case side1 => repeat (first | (with_reducible first | exact HI281.out | apply IsS81.alloc | apply IsS81.drewN | apply IsS81.drew | apply IsS81.set_1 | apply IsS81.set_2 | refine IsS81.far ?_ NB281_277.out _ | refine IsS81.far ?_ NB281_288.out _) | exact HI281.out)); (case side2 => repeat (first | (with_reducible first | exact HB.out | apply below_alloc | apply pw_below_drewN | apply below_drew1 | refine below_set ?_ (IsS81.ge HI281.out) | refine below_set ?_ GE277.out | refine below_set ?_ GE288.out) | exact HB.out)); (case side3 => repeat (first | exact (Kd.R_reads' HO_289001.out).2.2 | (with_reducible refine Kd.C_alloc ?_ _) | (with_reducible refine Kd.C_drewN ?_ _) | (with_reducible refine Kd.C_drew ?_))); (case side4 => exact (Kd.R_reads' HO_289001.out).2.1); (case side5 => exact far_slice (IsS81.own_ne HI281.out HO_289001.out (by decide))); rintro e w91 ⟨v316, rfl, ho0, hi, hb, hk⟩; refine ⟨_, rfl, ?_⟩; refine zA7 (Kd.R_mono (Kd.R_told (Kd.R_oldK (IsS81.apart (show IsS81 w _ g281 t278 t312 t313 from by repeat (first | (with_reducible first | exact HI281.out | apply IsS81.alloc | apply IsS81.drewN | apply IsS81.drew | apply IsS81.set_1 | apply IsS81.set_2 | refine IsS81.far ?_ NB281_277.out _ | refine IsS81.far ?_ NB281_288.out _) | exact HI281.out)) (zR HO_289001.out) (by decide)) hk) (Kd.R_base ho0)) (fun _ h_ => h_.1)) (KeepBut.blk hk (g' := gb277) (o := .cells #[.int .i64 0, .slice none 0 0] 26 (0, 0)) (zB BK277.out) NB277_281.out (by simp)) (KeepBut.blk hk (g' := gb288) (o := .cells #[.int .i64 t282, .slice Ao12 t283.length co12] 26 (0, 0)) (zB BK288.out) NB288_281.out (by simp)) (Kd.R_mono (Kd.R_told (Kd.R_oldK (IsS81.apart (show IsS81 w _ g281 t278 t312 t313 from by repeat (first | (with_reducible first | exact HI281.out | apply IsS81.alloc | apply IsS81.drewN | apply IsS81.drew | apply IsS81.set_1 | apply IsS81.set_2 | refine IsS81.far ?_ NB281_277.out _ | refine IsS81.far ?_ NB281_288.out _) | exact HI281.out)) (zR HO310.out) (by decide)) hk) (Kd.R_base ho0)) (fun _ h_ => h_.1)) (Kd.R_lower (Kd.R_new' (Kd.R_new' ho0 (Kd.R_lt (zR HO_289001.out))) (Kd.R_lt (zR HO310.out))) (below_size (by repeat (first | (with_reducible first | exact HB.out | apply below_alloc | apply pw_below_drewN | apply below_drew1 | refine below_set ?_ (IsS81.ge HI281.out) | refine below_set ?_ GE277.out | refine below_set ?_ GE288.out) | exact HB.out)))) (hb) (hi) ?_; clear HO_289001 BK277 BK288 HO310 HB HI281; intro HO_289001 BK277 BK288 HO310 HO317 HB HI281; (try clear hb); (try clear hb2); (try clear hk); (try clear hi); (try clear ho0); have hnb92 := NB277_281.out; have hnc92 := NB281_277.out; obtain ⟨hcz93_0, hcz93_1⟩ := zc2 BK277; obtain ⟨hfz93_0, hfz93_1⟩ := zf2 BK277; obtain ⟨Ao94, co94, eo94⟩ := Kd.R_slice HO317.out; subst eo94))
            refine bodyPost_ret (results_ctt rfl _ _ gb277 26 #[.int .i64 t314, .slice Ao94 t315.length co94] (0, 0) _ rfl (by (with_reducible repeat (first | refine blk_drewN ?_ _ | refine blk_drew ?_ | refine blk_alloc ?_ _)); refine blk_put (cs := #[.int .i64 t314, .slice none 0 0]) ?_ 1 _ rfl; (with_reducible repeat (first | refine blk_drewN ?_ _ | refine blk_drew ?_ | refine blk_alloc ?_ _)); refine blk_put (cs := #[.int .i64 0, .slice none 0 0]) ?_ 0 _ rfl; (with_reducible repeat (first | refine blk_drewN ?_ _ | refine blk_drew ?_ | refine blk_alloc ?_ _)); exact BK277.out) Try.underlying26 rfl (by kernel_rfl)) rfl ?_
            exact ⟨_, by first | rfl | (simp [errW_none, errW_some] <;> rfl) | (simp only [← hji77, ← hji79]; first | rfl | (simp [errW_none, errW_some] <;> rfl)) | (simp [*, errW_none, errW_some] <;> rfl), by (with_reducible repeat (first | apply Kd.R_alloc | apply Kd.R_drewN | apply Kd.R_drew)); exact Kd.R_mono (Kd.R_far (p := ⟨gb277, 1, none⟩) (Kd.R_far (p := ⟨gb277, 0, none⟩) (Kd.R_types HO317.out BK277.out (by decide)) (fun _ hk => hk.2) (.int .i64 t314)) (fun _ hk => hk.2) (.slice Ao94 t315.length co94)) (fun _ hk => trivial), by repeat (first | (with_reducible first | exact HB.out | apply below_alloc | apply pw_below_drewN | apply below_drew1 | refine below_set ?_ (IsS81.ge HI281.out) | refine below_set ?_ GE277.out | refine below_set ?_ GE288.out) | exact HB.out)⟩
          · rw [if_neg c78] at H
            exact absurd H (by simp)
        · rw [if_neg c76] at H
          have c76b0 := zq3 c76
          have c76b1 := zq4 c76
          by_cases c95 : t305 = 1
          · rw [if_pos c95] at H
            have c95b0 := zq1 c95
            have c95b1 := zq2 c95
            clear c95
            obtain ⟨ji96, hji96⟩ := zj (IntKind.u64.wrap (t282))
            (first | rw [hji96] at H | simp only [hji96] at H)
            (try rw [hji96] at A75)
            by_cases c97 : 0 ≤ (ji96)
            · rw [if_pos c97] at H
              have c97b0 := eq_true c97
              have c97b1 := decide_eq_true c97
              clear c97
              obtain ⟨ji98, hji98⟩ := zj (shl .i64 1 (ji96))
              (first | rw [hji98] at H | simp only [hji98] at H)
              (try rw [hji98] at A75)
              have hji98_ : (IntKind.i64.wrap (1 * 2 ^ min (ji96).toNat 64)) = ji98 := hji98
              have hji98z : (ji96) ≤ 64 → (IntKind.i64.wrap (1 * 2 ^ (ji96).toNat)) = ji98 := shl_small hji98
              have hji98u : (IntKind.i64.wrap (2 ^ min (ji96).toNat 64)) = ji98 := by have h_ := hji98_; rw [Int.one_mul] at h_; exact h_
              have hji98v : (ji96) ≤ 64 → (IntKind.i64.wrap (2 ^ (ji96).toNat)) = ji98 := fun hle_ => by have h_ := hji98z hle_; rw [Int.one_mul] at h_; exact h_
              have hji98y : (wrap64 (1 * 2 ^ min (ji96).toNat 64)) = ji98 := (i64_w _).symm.trans hji98_
              have hji98x : (ji96) ≤ 64 → (wrap64 (1 * 2 ^ (ji96).toNat)) = ji98 := fun h_ => (i64_w _).symm.trans (hji98z h_)
              obtain ⟨y320, hy320⟩ : ∃ y_ : List Int, y_ = (([(-1), ji98, x7_1] : List Int)) := ⟨_, rfl⟩
              replace H : ((spec_l01Pick.f t278 t306 t307 y320).bind fun bt323 => ((spec_l07Bad.f t278 bt323.2.1 bt323.2.2 t282 t283).bind fun bt326 => (some (bt326.1, bt326.2.1, x7_1, bt323.1)))) = some (r1, r2, r3, r4) := by first | (rw [hy320]; with_reducible exact H) | (have H2_ := (Option.bind_some _ _).symm.trans H; rw [hy320]; with_reducible exact H2_) | (have H2_ := (Option.bind_some _ _).symm.trans H; with_reducible exact H2_) | with_reducible exact H | (rw [hy320]; exact H) | exact H
              have Ny320 := Aside0.mk hy320
              clear hy320
              obtain ⟨⟨t323, t324, t325⟩, A99, H⟩ := zb H; (try dsimp only at H)
              obtain ⟨⟨t326, t327, t330, t331⟩, A100, H⟩ := zb H; (try dsimp only at H)
              simp only [Option.some.injEq, Prod.mk.injEq] at H
              obtain ⟨rfl, rfl, rfl, rfl⟩ := H
              go_wp2_with (first | ((with_reducible refine gate_callee (f := 41) rfl ?_); refine goesL_ (some 71) rfl rfl Try.func41 (by kernel_rfl) rfl #[.pointer (some ⟨g281, 0, none⟩), .int .i64 20] rfl zM ?_; (with_reducible refine (spec_l01Next.calls g281 t278 x282001_1 x282002_1 20 t305 t306 t307 w _ ?side1 ?side2 A75.out).mono ?_); (case side1 => repeat (first | (with_reducible first | exact HI281.out | apply IsS81.alloc | apply IsS81.drewN | apply IsS81.drew | apply IsS81.set_1 | apply IsS81.set_2 | refine IsS81.far ?_ NB281_277.out _ | refine IsS81.far ?_ NB281_288.out _) | exact HI281.out)); (case side2 => repeat (first | (with_reducible first | exact HB.out | apply below_alloc | apply pw_below_drewN | apply below_drew1 | refine below_set ?_ (IsS81.ge HI281.out) | refine below_set ?_ GE277.out | refine below_set ?_ GE288.out) | exact HB.out)); rintro e w101 ⟨rfl, hi, hb, hk⟩; refine ⟨_, rfl, ?_⟩; refine zA5 (Kd.R_mono (Kd.R_keep (IsS81.apart (show IsS81 w _ g281 t278 x282001_1 x282002_1 from by repeat (first | (with_reducible first | exact HI281.out | apply IsS81.alloc | apply IsS81.drewN | apply IsS81.drew | apply IsS81.set_1 | apply IsS81.set_2 | refine IsS81.far ?_ NB281_277.out _ | refine IsS81.far ?_ NB281_288.out _) | exact HI281.out)) (zR HO_289001.out) (by decide)) hk (fun _ h => h.2)) (fun _ h => h.1)) (KeepBut.blk hk (g' := gb277) (o := .cells #[.int .i64 0, .slice none 0 0] 26 (0, 0)) (zB BK277.out) NB277_281.out (by simp)) (KeepBut.blk hk (g' := gb288) (o := .cells #[.int .i64 t282, .slice Ao12 t283.length co12] 26 (0, 0)) (zB BK288.out) NB288_281.out (by simp)) (hb) (hi) ?_; clear HO_289001 BK277 BK288 HB HI281; intro HO_289001 BK277 BK288 HB HI281; (try clear hb); (try clear hb2); (try clear hk); (try clear hi); have hnb102 := NB288_277.out; have hnc102 := NB277_288.out; have hnb103 := NB288_281.out; have hnc103 := NB281_288.out; obtain ⟨hcz104_0, hcz104_1⟩ := zc2 BK288; obtain ⟨hfz104_0, hfz104_1⟩ := zf2 BK288) | ((with_reducible refine gate_dst (N := 90) rfl ?_); refine Kd.R_lit (Kd.int .i64) _ 2 ?hg (N := 90) ?hd (xs := ([(-1), ji98, x7_1] : List Int)) (inner := [.int .i64 (-1), .int .i64 ji98, .int .i64 x7_1]) (ok := fun _ => True) (okp := fun _ => True) ?hr ?hp (fun _ hk => hk) trivial (Below.refl _ _) (Nat.le_refl _) (by simp) ?_; (case hd => rfl); (case hg => rfl); (case hr => first | (go_simp; done) | (go_simp; rfl)); (case hp => exact (Reps.one (show Kd.M (Kd.int .i64) _ _ _ (-1) [.int .i64 (-1)] from rfl) (Reps.one (show Kd.M (Kd.int .i64) _ _ _ ji98 [.int .i64 ji98] from rfl) (Reps.one (show Kd.M (Kd.int .i64) _ _ _ x7_1 [.int .i64 x7_1] from rfl) (Reps.none _ _))))); intro v321 w105 ho106 hb hg_ hnew_; clear hg_ hnew_; (first | rw [← Ny320.out] at ho106 | (simp only [Int.reduceToNat] at ho106; rw [← Ny320.out] at ho106)); refine zA6 (Kd.R_elder' (zR HO_289001.out) (Kd.R_base ho106) hb) (Kd.R_lower (Kd.R_new' ho106 (Kd.R_lt (zR HO_289001.out))) (below_size (by repeat (first | (with_reducible first | exact HB.out | apply below_alloc | apply pw_below_drewN | apply below_drew1 | refine below_set ?_ (IsS81.ge HI281.out) | refine below_set ?_ GE277.out | refine below_set ?_ GE288.out) | exact HB.out)))) (blk_below (g := gb277) (o := .cells #[.int .i64 0, .slice none 0 0] 26 (0, 0)) (zB BK277.out) hb) (blk_below (g := gb288) (o := .cells #[.int .i64 t282, .slice Ao12 t283.length co12] 26 (0, 0)) (zB BK288.out) hb) (IsS81.below (by repeat (first | (with_reducible first | exact HI281.out | apply IsS81.alloc | apply IsS81.drewN | apply IsS81.drew | apply IsS81.set_1 | apply IsS81.set_2 | refine IsS81.far ?_ NB281_277.out _ | refine IsS81.far ?_ NB281_288.out _) | exact HI281.out)) hb) (below_step (by repeat (first | (with_reducible first | exact HB.out | apply below_alloc | apply pw_below_drewN | apply below_drew1 | refine below_set ?_ (IsS81.ge HI281.out) | refine below_set ?_ GE277.out | refine below_set ?_ GE288.out) | exact HB.out)) hb) ?_; clear HO_289001 BK277 BK288 HI281 HB; intro HO_289001 HO322 BK277 BK288 HI281 HB; clear hb ho106; obtain ⟨Ao107, co107, eo107⟩ := Kd.R_slice HO322.out; subst eo107) | ((with_reducible refine gate_callee (f := 43) rfl ?_); refine goesL_ (some 91) rfl rfl Try.func43 (by kernel_rfl) rfl #[.pointer (some ⟨g281, 0, none⟩), .slice Ao107 y320.length co107] rfl zM ?_; (with_reducible refine (spec_l01Pick.calls g281 t278 t306 t307 _ _ y320 t323 t324 t325 w _ ?side1 ?side2 ?side3 ?side4 ?side5 A99.out).mono ?_); (case side1 => repeat (first | (with_reducible first | exact HI281.out | apply IsS81.alloc | apply IsS81.drewN | apply IsS81.drew | apply IsS81.set_1 | apply IsS81.set_2 | refine IsS81.far ?_ NB281_277.out _ | refine IsS81.far ?_ NB281_288.out _) | exact HI281.out)); (case side2 => repeat (first | (with_reducible first | exact HB.out | apply below_alloc | apply pw_below_drewN | apply below_drew1 | refine below_set ?_ (IsS81.ge HI281.out) | refine below_set ?_ GE277.out | refine below_set ?_ GE288.out) | exact HB.out)); (case side3 => repeat (first | exact (Kd.R_reads' HO322.out).2.2 | (with_reducible refine Kd.C_alloc ?_ _) | (with_reducible refine Kd.C_drewN ?_ _) | (with_reducible refine Kd.C_drew ?_))); (case side4 => exact (Kd.R_reads' HO322.out).2.1); (case side5 => exact far_slice (IsS81.own_ne HI281.out HO322.out (by decide))); rintro e w108 ⟨rfl, hi, hb, hk⟩; refine ⟨_, rfl, ?_⟩; refine zA6 (Kd.R_mono (Kd.R_keep (IsS81.apart (show IsS81 w _ g281 t278 t306 t307 from by repeat (first | (with_reducible first | exact HI281.out | apply IsS81.alloc | apply IsS81.drewN | apply IsS81.drew | apply IsS81.set_1 | apply IsS81.set_2 | refine IsS81.far ?_ NB281_277.out _ | refine IsS81.far ?_ NB281_288.out _) | exact HI281.out)) (zR HO_289001.out) (by decide)) hk (fun _ h => h.2)) (fun _ h => h.1)) (KeepBut.blk hk (g' := gb277) (o := .cells #[.int .i64 0, .slice none 0 0] 26 (0, 0)) (zB BK277.out) NB277_281.out (by simp)) (KeepBut.blk hk (g' := gb288) (o := .cells #[.int .i64 t282, .slice Ao12 t283.length co12] 26 (0, 0)) (zB BK288.out) NB288_281.out (by simp)) (Kd.R_mono (Kd.R_keep (IsS81.apart (show IsS81 w _ g281 t278 t306 t307 from by repeat (first | (with_reducible first | exact HI281.out | apply IsS81.alloc | apply IsS81.drewN | apply IsS81.drew | apply IsS81.set_1 | apply IsS81.set_2 | refine IsS81.far ?_ NB281_277.out _ | refine IsS81.far ?_ NB281_288.out _) | exact HI281.out)) (zR HO322.out) (by decide)) hk (fun _ h => h.2)) (fun _ h => h.1)) (hb) (hi) ?_; clear HO_289001 BK277 BK288 HO322 HB HI281; intro HO_289001 BK277 BK288 HO322 HB HI281; (try clear hb); (try clear hb2); (try clear hk); (try clear hi); obtain ⟨hcz109_0, hcz109_1⟩ := zc2 BK288; obtain ⟨hfz109_0, hfz109_1⟩ := zf2 BK288) | ((with_reducible refine gate_callee (f := 44) rfl ?_); refine goesL_ (some 94) rfl rfl Try.func44 (by kernel_rfl) rfl #[.pointer (some ⟨g281, 0, none⟩), .agg #[.int .i64 t282, .slice Ao12 t283.length co12]] rfl zM ?_; (with_reducible refine (spec_l07Bad.calls g281 t278 t324 t325 t282 _ _ t283 t326 t327 t330 t331 w _ ?side1 ?side2 ?side3 ?side4 ?side5 A100.out).mono ?_); (case side1 => repeat (first | (with_reducible first | exact HI281.out | apply IsS81.alloc | apply IsS81.drewN | apply IsS81.drew | apply IsS81.set_1 | apply IsS81.set_2 | refine IsS81.far ?_ NB281_277.out _ | refine IsS81.far ?_ NB281_288.out _) | exact HI281.out)); (case side2 => repeat (first | (with_reducible first | exact HB.out | apply below_alloc | apply pw_below_drewN | apply below_drew1 | refine below_set ?_ (IsS81.ge HI281.out) | refine below_set ?_ GE277.out | refine below_set ?_ GE288.out) | exact HB.out)); (case side3 => repeat (first | exact (Kd.R_reads' HO_289001.out).2.2 | (with_reducible refine Kd.C_alloc ?_ _) | (with_reducible refine Kd.C_drewN ?_ _) | (with_reducible refine Kd.C_drew ?_))); (case side4 => exact (Kd.R_reads' HO_289001.out).2.1); (case side5 => exact far_slice (IsS81.own_ne HI281.out HO_289001.out (by decide))); rintro e w110 ⟨v328, rfl, ho0, hi, hb, hk⟩; refine ⟨_, rfl, ?_⟩; refine zA7 (Kd.R_mono (Kd.R_told (Kd.R_oldK (IsS81.apart (show IsS81 w _ g281 t278 t324 t325 from by repeat (first | (with_reducible first | exact HI281.out | apply IsS81.alloc | apply IsS81.drewN | apply IsS81.drew | apply IsS81.set_1 | apply IsS81.set_2 | refine IsS81.far ?_ NB281_277.out _ | refine IsS81.far ?_ NB281_288.out _) | exact HI281.out)) (zR HO_289001.out) (by decide)) hk) (Kd.R_base ho0)) (fun _ h_ => h_.1)) (KeepBut.blk hk (g' := gb277) (o := .cells #[.int .i64 0, .slice none 0 0] 26 (0, 0)) (zB BK277.out) NB277_281.out (by simp)) (KeepBut.blk hk (g' := gb288) (o := .cells #[.int .i64 t282, .slice Ao12 t283.length co12] 26 (0, 0)) (zB BK288.out) NB288_281.out (by simp)) (Kd.R_mono (Kd.R_told (Kd.R_oldK (IsS81.apart (show IsS81 w _ g281 t278 t324 t325 from by repeat (first | (with_reducible first | exact HI281.out | apply IsS81.alloc | apply IsS81.drewN | apply IsS81.drew | apply IsS81.set_1 | apply IsS81.set_2 | refine IsS81.far ?_ NB281_277.out _ | refine IsS81.far ?_ NB281_288.out _) | exact HI281.out)) (zR HO322.out) (by decide)) hk) (Kd.R_base ho0)) (fun _ h_ => h_.1)) (Kd.R_lower (Kd.R_new' (Kd.R_new' ho0 (Kd.R_lt (zR HO_289001.out))) (Kd.R_lt (zR HO322.out))) (below_size (by repeat (first | (with_reducible first | exact HB.out | apply below_alloc | apply pw_below_drewN | apply below_drew1 | refine below_set ?_ (IsS81.ge HI281.out) | refine below_set ?_ GE277.out | refine below_set ?_ GE288.out) | exact HB.out)))) (hb) (hi) ?_; clear HO_289001 BK277 BK288 HO322 HB HI281; intro HO_289001 BK277 BK288 HO322 HO329 HB HI281; (try clear hb); (try clear hb2); (try clear hk); (try clear hi); (try clear ho0); have hnb111 := NB277_281.out; have hnc111 := NB281_277.out; obtain ⟨hcz112_0, hcz112_1⟩ := zc2 BK277; obtain ⟨hfz112_0, hfz112_1⟩ := zf2 BK277; obtain ⟨Ao113, co113, eo113⟩ := Kd.R_slice HO329.out; subst eo113))
              refine bodyPost_ret (results_ctt rfl _ _ gb277 26 #[.int .i64 t326, .slice Ao113 t327.length co113] (0, 0) _ rfl (by (with_reducible repeat (first | refine blk_drewN ?_ _ | refine blk_drew ?_ | refine blk_alloc ?_ _)); refine blk_put (cs := #[.int .i64 t326, .slice none 0 0]) ?_ 1 _ rfl; (with_reducible repeat (first | refine blk_drewN ?_ _ | refine blk_drew ?_ | refine blk_alloc ?_ _)); refine blk_put (cs := #[.int .i64 0, .slice none 0 0]) ?_ 0 _ rfl; (with_reducible repeat (first | refine blk_drewN ?_ _ | refine blk_drew ?_ | refine blk_alloc ?_ _)); exact BK277.out) Try.underlying26 rfl (by kernel_rfl)) rfl ?_
              exact ⟨_, by first | rfl | (simp [errW_none, errW_some] <;> rfl) | (simp only [← hji96, ← hji98]; first | rfl | (simp [errW_none, errW_some] <;> rfl)) | (simp [*, errW_none, errW_some] <;> rfl), by (with_reducible repeat (first | apply Kd.R_alloc | apply Kd.R_drewN | apply Kd.R_drew)); exact Kd.R_mono (Kd.R_far (p := ⟨gb277, 1, none⟩) (Kd.R_far (p := ⟨gb277, 0, none⟩) (Kd.R_types HO329.out BK277.out (by decide)) (fun _ hk => hk.2) (.int .i64 t326)) (fun _ hk => hk.2) (.slice Ao113 t327.length co113)) (fun _ hk => trivial), by repeat (first | (with_reducible first | exact HB.out | apply below_alloc | apply pw_below_drewN | apply below_drew1 | refine below_set ?_ (IsS81.ge HI281.out) | refine below_set ?_ GE277.out | refine below_set ?_ GE288.out) | exact HB.out)⟩
            · rw [if_neg c97] at H
              exact absurd H (by simp)
          · rw [if_neg c95] at H
            have c95b0 := zq3 c95
            have c95b1 := zq4 c95
            obtain ⟨⟨t332, t333, t336, t337⟩, A114, H⟩ := zb H; (try dsimp only at H)
            simp only [Option.some.injEq, Prod.mk.injEq] at H
            obtain ⟨rfl, rfl, rfl, rfl⟩ := H
            go_wp2_with (first | ((with_reducible refine gate_callee (f := 41) rfl ?_); refine goesL_ (some 71) rfl rfl Try.func41 (by kernel_rfl) rfl #[.pointer (some ⟨g281, 0, none⟩), .int .i64 20] rfl zM ?_; (with_reducible refine (spec_l01Next.calls g281 t278 x282001_1 x282002_1 20 t305 t306 t307 w _ ?side1 ?side2 A75.out).mono ?_); (case side1 => repeat (first | (with_reducible first | exact HI281.out | apply IsS81.alloc | apply IsS81.drewN | apply IsS81.drew | apply IsS81.set_1 | apply IsS81.set_2 | refine IsS81.far ?_ NB281_277.out _ | refine IsS81.far ?_ NB281_288.out _) | exact HI281.out)); (case side2 => repeat (first | (with_reducible first | exact HB.out | apply below_alloc | apply pw_below_drewN | apply below_drew1 | refine below_set ?_ (IsS81.ge HI281.out) | refine below_set ?_ GE277.out | refine below_set ?_ GE288.out) | exact HB.out)); rintro e w115 ⟨rfl, hi, hb, hk⟩; refine ⟨_, rfl, ?_⟩; refine zA5 (Kd.R_mono (Kd.R_keep (IsS81.apart (show IsS81 w _ g281 t278 x282001_1 x282002_1 from by repeat (first | (with_reducible first | exact HI281.out | apply IsS81.alloc | apply IsS81.drewN | apply IsS81.drew | apply IsS81.set_1 | apply IsS81.set_2 | refine IsS81.far ?_ NB281_277.out _ | refine IsS81.far ?_ NB281_288.out _) | exact HI281.out)) (zR HO_289001.out) (by decide)) hk (fun _ h => h.2)) (fun _ h => h.1)) (KeepBut.blk hk (g' := gb277) (o := .cells #[.int .i64 0, .slice none 0 0] 26 (0, 0)) (zB BK277.out) NB277_281.out (by simp)) (KeepBut.blk hk (g' := gb288) (o := .cells #[.int .i64 t282, .slice Ao12 t283.length co12] 26 (0, 0)) (zB BK288.out) NB288_281.out (by simp)) (hb) (hi) ?_; clear HO_289001 BK277 BK288 HB HI281; intro HO_289001 BK277 BK288 HB HI281; (try clear hb); (try clear hb2); (try clear hk); (try clear hi); have hnb116 := NB288_277.out; have hnc116 := NB277_288.out; have hnb117 := NB288_281.out; have hnc117 := NB281_288.out; obtain ⟨hcz118_0, hcz118_1⟩ := zc2 BK288; obtain ⟨hfz118_0, hfz118_1⟩ := zf2 BK288) | ((with_reducible refine gate_callee (f := 44) rfl ?_); refine goesL_ (some 94) rfl rfl Try.func44 (by kernel_rfl) rfl #[.pointer (some ⟨g281, 0, none⟩), .agg #[.int .i64 t282, .slice Ao12 t283.length co12]] rfl zM ?_; (with_reducible refine (spec_l07Bad.calls g281 t278 t306 t307 t282 _ _ t283 t332 t333 t336 t337 w _ ?side1 ?side2 ?side3 ?side4 ?side5 A114.out).mono ?_); (case side1 => repeat (first | (with_reducible first | exact HI281.out | apply IsS81.alloc | apply IsS81.drewN | apply IsS81.drew | apply IsS81.set_1 | apply IsS81.set_2 | refine IsS81.far ?_ NB281_277.out _ | refine IsS81.far ?_ NB281_288.out _) | exact HI281.out)); (case side2 => repeat (first | (with_reducible first | exact HB.out | apply below_alloc | apply pw_below_drewN | apply below_drew1 | refine below_set ?_ (IsS81.ge HI281.out) | refine below_set ?_ GE277.out | refine below_set ?_ GE288.out) | exact HB.out)); (case side3 => repeat (first | exact (Kd.R_reads' HO_289001.out).2.2 | (with_reducible refine Kd.C_alloc ?_ _) | (with_reducible refine Kd.C_drewN ?_ _) | (with_reducible refine Kd.C_drew ?_))); (case side4 => exact (Kd.R_reads' HO_289001.out).2.1); (case side5 => exact far_slice (IsS81.own_ne HI281.out HO_289001.out (by decide))); rintro e w119 ⟨v334, rfl, ho0, hi, hb, hk⟩; refine ⟨_, rfl, ?_⟩; refine zA6 (Kd.R_mono (Kd.R_told (Kd.R_oldK (IsS81.apart (show IsS81 w _ g281 t278 t306 t307 from by repeat (first | (with_reducible first | exact HI281.out | apply IsS81.alloc | apply IsS81.drewN | apply IsS81.drew | apply IsS81.set_1 | apply IsS81.set_2 | refine IsS81.far ?_ NB281_277.out _ | refine IsS81.far ?_ NB281_288.out _) | exact HI281.out)) (zR HO_289001.out) (by decide)) hk) (Kd.R_base ho0)) (fun _ h_ => h_.1)) (KeepBut.blk hk (g' := gb277) (o := .cells #[.int .i64 0, .slice none 0 0] 26 (0, 0)) (zB BK277.out) NB277_281.out (by simp)) (KeepBut.blk hk (g' := gb288) (o := .cells #[.int .i64 t282, .slice Ao12 t283.length co12] 26 (0, 0)) (zB BK288.out) NB288_281.out (by simp)) (Kd.R_lower (Kd.R_new' ho0 (Kd.R_lt (zR HO_289001.out))) (below_size (by repeat (first | (with_reducible first | exact HB.out | apply below_alloc | apply pw_below_drewN | apply below_drew1 | refine below_set ?_ (IsS81.ge HI281.out) | refine below_set ?_ GE277.out | refine below_set ?_ GE288.out) | exact HB.out)))) (hb) (hi) ?_; clear HO_289001 BK277 BK288 HB HI281; intro HO_289001 BK277 BK288 HO335 HB HI281; (try clear hb); (try clear hb2); (try clear hk); (try clear hi); (try clear ho0); have hnb120 := NB277_281.out; have hnc120 := NB281_277.out; obtain ⟨hcz121_0, hcz121_1⟩ := zc2 BK277; obtain ⟨hfz121_0, hfz121_1⟩ := zf2 BK277; obtain ⟨Ao122, co122, eo122⟩ := Kd.R_slice HO335.out; subst eo122))
            refine bodyPost_ret (results_ctt rfl _ _ gb277 26 #[.int .i64 t332, .slice Ao122 t333.length co122] (0, 0) _ rfl (by (with_reducible repeat (first | refine blk_drewN ?_ _ | refine blk_drew ?_ | refine blk_alloc ?_ _)); refine blk_put (cs := #[.int .i64 t332, .slice none 0 0]) ?_ 1 _ rfl; (with_reducible repeat (first | refine blk_drewN ?_ _ | refine blk_drew ?_ | refine blk_alloc ?_ _)); refine blk_put (cs := #[.int .i64 0, .slice none 0 0]) ?_ 0 _ rfl; (with_reducible repeat (first | refine blk_drewN ?_ _ | refine blk_drew ?_ | refine blk_alloc ?_ _)); exact BK277.out) Try.underlying26 rfl (by kernel_rfl)) rfl ?_
            exact ⟨_, zE, by (with_reducible repeat (first | apply Kd.R_alloc | apply Kd.R_drewN | apply Kd.R_drew)); exact Kd.R_mono (Kd.R_far (p := ⟨gb277, 1, none⟩) (Kd.R_far (p := ⟨gb277, 0, none⟩) (Kd.R_types HO335.out BK277.out (by decide)) (fun _ hk => hk.2) (.int .i64 t332)) (fun _ hk => hk.2) (.slice Ao122 t333.length co122)) (fun _ hk => trivial), by repeat (first | (with_reducible first | exact HB.out | apply below_alloc | apply pw_below_drewN | apply below_drew1 | refine below_set ?_ (IsS81.ge HI281.out) | refine below_set ?_ GE277.out | refine below_set ?_ GE288.out) | exact HB.out)⟩

/-! ### spec_DrawRaceResult: function 5 -/
def spec_DrawRaceResult.f (k : Nat) (l0 : List Int) : Option (Int × List Int × Int × Int) := (spec_l07With.f k l0).bind fun bt339 => (some (bt339.1, bt339.2.1, bt339.2.2.1, bt339.2.2.2))
theorem spec_DrawRaceResult.mono : ∀ a0 k, LeO (spec_DrawRaceResult.f k a0) (spec_DrawRaceResult.f (k + 1) a0) := by
  intro a0 k
  unfold spec_DrawRaceResult.f
  repeat' first
      | (with_reducible exact spec_l07With.mono _ _)
      | (with_reducible exact LeO.refl _)
      | (with_reducible exact LeO.none _)
      | (with_reducible refine LeO.ite ?_ ?_)
      | (with_reducible refine LeO.bind ?_ (fun _ => ?_))
      | exact spec_l07With.mono _ _
      | exact LeO.none _
      | refine LeO.ite ?_ ?_
      | refine LeO.bind ?_ (fun _ => ?_)
set_option maxHeartbeats 8000000 in
set_option maxRecDepth 100000 in
theorem spec_DrawRaceResult.calls (k : Nat) (A0 : Option Addr) (c0 : Nat) (l0 : List Int) (r1 : Int) (r2 : List Int) (r3 : Int) (r4 : Int) (w : World) (hr0 : Kd.C (Kd.int .u8) w A0 l0.length l0) (hc0 : l0.length ≤ c0) (h : spec_DrawRaceResult.f k l0 = some (r1, r2, r3, r4)) :
    Calls Try.prog 5 #[.slice A0 l0.length c0] w fun e w' => ∃ v1_ : Value, e = .returned (.tuple #[.agg #[.int .i64 r1, v1_], .int .i64 r3, .int .i64 r4]) ∧ Kd.R (Kd.int .i64) 2 w' w.heap.size (fun _ => True) v1_ r2 ∧ Below w.heap.size w w' := by
  have hu26 := Try.underlying26
  have HR0 := Aside0.mk hr0
  have HC0 := Aside0.mk hc0
  clear hr0 hc0
  have HB := Aside0.mk (Below.refl w.heap.size w)
  have H : ((spec_l07With.f k l0).bind fun bt339 => (some (bt339.1, bt339.2.1, bt339.2.2.1, bt339.2.2.2))) = some (r1, r2, r3, r4) := h
  clear h
  obtain ⟨⟨t339, t340, t343, t344⟩, A2, H⟩ := zb H; (try dsimp only at H)
  simp only [Option.some.injEq, Prod.mk.injEq] at H
  obtain ⟨rfl, rfl, rfl, rfl⟩ := H
  go_enter Try.func5, Try.ntmps5
  go_wp2_with (first | ((with_reducible refine gate_dst (N := 2) rfl ?_); refine zX 2 #[.int .i64 0, .slice none 0 0] 26 ?_; intro gb338 hg w3 hbox hb; refine zA4 (below_step (zH HB.out) hb) (hbox) ((zS hg (below_size (zH HB.out)) : w.heap.size ≤ gb338)) ((zS hg (below_size (zH HB.out)) : w.heap.size ≤ gb338)) ?_; clear HB; intro HB BK338 GW338 GE338; clear hb hbox hg) | ((with_reducible refine gate_callee (f := 19) rfl ?_); refine goesL_ (some 10) rfl rfl Try.func19 (by kernel_rfl) rfl #[.slice A0 l0.length c0] rfl zM ?_; (with_reducible refine (spec_l07With.calls k _ _ l0 t339 t340 t343 t344 _ ?side1 ?side2 A2.out).mono ?_); (case side1 => repeat (first | exact (Kd.C_below HR0.out HB.out) | (with_reducible refine Kd.C_alloc ?_ _) | (with_reducible refine Kd.C_drewN ?_ _) | (with_reducible refine Kd.C_drew ?_))); (case side2 => exact HC0.out); rintro e w4 ⟨v341, rfl, ho0, hb⟩; refine ⟨_, rfl, ?_⟩; refine zA3 (Kd.R_lower ho0 (below_size (zH1 HB.out GE338.out))) (blk_below (g := gb338) (o := .cells #[.int .i64 0, .slice none 0 0] 26 (0, 0)) (zB BK338.out) hb) (below_step (zH1 HB.out GE338.out) hb) ?_; clear BK338 HB; intro HO342 BK338 HB; (try clear hb); (try clear hb2); (try clear hk); (try clear hi); (try clear ho0)) | ((with_reducible refine gate_dst (N := 5) rfl ?_); refine zX 5 #[.int .i64 0, .slice none 0 0] 26 ?_; intro gb345 hg w5 hbox hb; refine zA8 (Kd.R_below (zR HO342.out) hb) (blk_below (g := gb338) (o := .cells #[.int .i64 0, .slice none 0 0] 26 (0, 0)) (zB BK338.out) hb) (below_step (zH1 HB.out GE338.out) hb) (hbox) ((zS hg (below_size (zH1 HB.out GE338.out)) : w.heap.size ≤ gb345)) ((zS hg (below_size (zH1 HB.out GE338.out)) : w.heap.size ≤ gb345)) ((zl hg (blk_lt (g := gb338) (o := .cells #[.int .i64 0, .slice none 0 0] 26 (0, 0)) (zB BK338.out)) : gb338 ≠ gb345)) ((zg hg (blk_lt (g := gb338) (o := .cells #[.int .i64 0, .slice none 0 0] 26 (0, 0)) (zB BK338.out)) : gb345 ≠ gb338)) ?_; clear HO342 BK338 HB; intro HO342 BK338 HB BK345 GW345 GE345 NB338_345 NB345_338; clear hb hbox hg; have hnb6 := NB345_338.out; have hnc6 := NB338_345.out; obtain ⟨hcz7_0, hcz7_1⟩ := zc2 BK345; obtain ⟨hfz7_0, hfz7_1⟩ := zf2 BK345; obtain ⟨Ao8, co8, eo8⟩ := Kd.R_slice HO342.out; subst eo8; obtain ⟨hcz9_0, hcz9_1⟩ := zc2 BK338; obtain ⟨hfz9_0, hfz9_1⟩ := zf2 BK338))
  refine bodyPost_ret (results_ctt rfl _ _ gb338 26 #[.int .i64 t339, .slice Ao8 t340.length co8] (0, 0) _ rfl (by (with_reducible repeat (first | refine blk_drewN ?_ _ | refine blk_drew ?_ | refine blk_alloc ?_ _)); refine blk_put (cs := #[.int .i64 t339, .slice none 0 0]) ?_ 1 _ rfl; (with_reducible repeat (first | refine blk_drewN ?_ _ | refine blk_drew ?_ | refine blk_alloc ?_ _)); refine blk_put (cs := #[.int .i64 0, .slice none 0 0]) ?_ 0 _ rfl; (with_reducible repeat (first | refine blk_drewN ?_ _ | refine blk_drew ?_ | refine blk_alloc ?_ _)); refine blk_far ?_ NB338_345.out _; (with_reducible repeat (first | refine blk_drewN ?_ _ | refine blk_drew ?_ | refine blk_alloc ?_ _)); refine blk_far ?_ NB338_345.out _; (with_reducible repeat (first | refine blk_drewN ?_ _ | refine blk_drew ?_ | refine blk_alloc ?_ _)); exact BK338.out) Try.underlying26 rfl (by kernel_rfl)) rfl ?_
  exact ⟨_, zE, by (with_reducible repeat (first | apply Kd.R_alloc | apply Kd.R_drewN | apply Kd.R_drew)); exact Kd.R_mono (Kd.R_far (p := ⟨gb338, 1, none⟩) (Kd.R_far (p := ⟨gb338, 0, none⟩) (Kd.R_far (p := ⟨gb345, 1, none⟩) (Kd.R_far (p := ⟨gb345, 0, none⟩) (Kd.R_types (Kd.R_types HO342.out BK345.out (by decide)) BK338.out (by decide)) (fun _ hk => hk.1.2) (.int .i64 t339)) (fun _ hk => hk.1.2) (.slice Ao8 t340.length co8)) (fun _ hk => hk.2) (.int .i64 t339)) (fun _ hk => hk.2) (.slice Ao8 t340.length co8)) (fun _ hk => trivial), zH2 HB.out GE338.out GE345.out⟩

/-! ### impl_first: function 32 -/
def impl_first.l0 : Nat → List (S57) → Int → Int → Option (Int)
  | 0, _, _, _ => none
  | k + 1, x5, x6, x7 => if x7 < x6 then (if 0 ≤ x7 then (if x7 < (x5.length : Int) then (if ((rd_T57 x5 x7).f0 = true) then (impl_first.l0 k x5 x6 (wrap64 (x7 + 1))) else (some ((rd_T57 x5 x7).f1))) else (none)) else (none)) else (some 0)
def impl_first.f (k : Nat) (l0 : List (S57)) : Option (Int) := impl_first.l0 k l0 (l0.length : Int) 0
theorem impl_first.mono_l : ∀ k, (∀ y0 y1 y2, LeO (impl_first.l0 k y0 y1 y2) (impl_first.l0 (k + 1) y0 y1 y2))
  | 0 => fun _ _ _ r h => by simp [impl_first.l0] at h
  | k + 1 => by
    have ih0 := impl_first.mono_l k
    · intro y0 y1 y2
      unfold impl_first.l0
      repeat' first
      | (with_reducible exact ih0 _ _ _)
      | (with_reducible exact LeO.refl _)
      | (with_reducible exact LeO.none _)
      | (with_reducible refine LeO.ite ?_ ?_)
      | (with_reducible refine LeO.bind ?_ (fun _ => ?_))
      | exact ih0 _ _ _
      | exact LeO.none _
      | refine LeO.ite ?_ ?_
      | refine LeO.bind ?_ (fun _ => ?_)
theorem impl_first.mono : ∀ a0 k, LeO (impl_first.f k a0) (impl_first.f (k + 1) a0) := by
  intro a0 k
  have ih0 := impl_first.mono_l k
  unfold impl_first.f
  repeat' first
      | (with_reducible exact ih0 _ _ _)
      | (with_reducible exact LeO.refl _)
      | (with_reducible exact LeO.none _)
      | (with_reducible refine LeO.ite ?_ ?_)
      | (with_reducible refine LeO.bind ?_ (fun _ => ?_))
      | exact ih0 _ _ _
      | exact LeO.none _
      | refine LeO.ite ?_ ?_
      | refine LeO.bind ?_ (fun _ => ?_)
set_option maxHeartbeats 8000000 in
set_option maxRecDepth 100000 in
theorem impl_first.calls (k : Nat) (A0 : Option Addr) (c0 : Nat) (l0 : List (S57)) (r : Int) (w : World) (hr0 : Kd.C k57 w A0 l0.length l0) (hc0 : l0.length ≤ c0) (h : impl_first.f k l0 = some r) :
    Calls Try.prog 32 #[.slice A0 l0.length c0] w fun e w' => e = .returned (.int .i64 r) ∧ Below w.heap.size w w' := by
  have hu57 := Try.underlying57
  have HR0 := Aside0.mk hr0
  have HC0 := Aside0.mk hc0
  clear hr0 hc0
  have HB := Aside0.mk (Below.refl w.heap.size w)
  have H : (impl_first.l0 k l0 (l0.length : Int) 0) = some r := h
  clear h
  have H' := Aside0.mk H
  clear H
  go_enter Try.func32, Try.ntmps32
  go_wp2
  go_loopg [7] k (fun kq v7 w' => ∃ (x7_1 : Int), v7 = .int .i64 x7_1 ∧ Aside0 (impl_first.l0 kq l0 (l0.length : Int) x7_1 = some r) ∧ Aside0 (kq ≤ k) ∧ Aside0 (Below w.heap.size w w'))
  case atStart => exact ⟨(0), (zF), H', ⟨Nat.le_refl _⟩, ⟨zH HB.out⟩⟩
  case round =>
    clear H'
    obtain ⟨x7_1, rfl, HA, HK1, HB⟩ := hrel
    cases gk with
    | zero => exact absurd HA.out (by simp [impl_first.l0])
    | succ k1 =>
      have H := HA.out
      clear HA
      simp only [impl_first.l0] at H
      by_cases c2 : x7_1 < (l0.length : Int)
      · rw [if_pos c2] at H
        have c2b0 := decide_eq_true c2
        clear c2
        by_cases c3 : 0 ≤ x7_1
        · rw [if_pos c3] at H
          have c3b0 := decide_eq_true c3
          clear c3
          by_cases c4 : x7_1 < (l0.length : Int)
          · rw [if_pos c4] at H
            have c4b0 := decide_eq_true c4
            clear c4
            obtain ⟨bq5, hbq5⟩ : ∃ b_ : Bool, b_ = ((rd_T57 l0 x7_1).f0) := ⟨_, rfl⟩
            replace H : (if (bq5 = true) then (impl_first.l0 k1 l0 (l0.length : Int) (wrap64 (x7_1 + 1))) else (some ((rd_T57 l0 x7_1).f1))) = some r := by rw [← hbq5] at H; exact H
            have Nbq5 := Aside0.mk hbq5
            clear hbq5
            by_cases c6 : (bq5 = true)
            · subst c6
              have H1 : (impl_first.l0 k1 l0 (l0.length : Int) (wrap64 (x7_1 + 1))) = some r := by rw [if_pos rfl] at H; exact H
              clear H
              have H := H1
              clear H1
              have H' := Aside0.mk H
              clear H
              have p346 : 0 ≤ (x7_1 : Int) := of_decide_eq_true (by first | (with_reducible assumption) | assumption)
              have q346 : x7_1 < (l0.length : Int) := of_decide_eq_true (by first | (with_reducible assumption) | assumption)
              obtain ⟨ad346, e346, hx346_0, hx346_1⟩ := at_T57 HR0.out x7_1 p346 q346
              (try rw [← Nbq5.out] at hx346_0)
              cases e346
              replace hx346_0 := (HB.out.cell (World.block_lt_of_cell? w _ hx346_0)).trans hx346_0
              replace hx346_1 := (HB.out.cell (World.block_lt_of_cell? w _ hx346_1)).trans hx346_1
              replace p346 := eq_true p346
              replace q346 := eq_true q346
              go_wp2_with (first | ((with_reducible refine gate_dst (N := 4) rfl ?_); refine zX 4 #[.bool false, .int .i64 0] 57 ?_; intro gb347 hg w7 hbox hb; refine zA4 (below_step (zH HB.out) hb) (hbox) ((zS hg (below_size (zH HB.out)) : w.heap.size ≤ gb347)) ((zS hg (below_size (zH HB.out)) : w.heap.size ≤ gb347)) ?_; clear HB; intro HB BK347 GW347 GE347; clear hb hbox hg; obtain ⟨hcz8_0, hcz8_1⟩ := zc2 BK347; obtain ⟨hfz8_0, hfz8_1⟩ := zf2 BK347))
              go_roundg k1
              case measure => have := HK1.out; omega
              case rel => exact ⟨(wrap64 (x7_1 + 1)), (zF), H', ⟨by have := HK1.out; omega⟩, ⟨zH1 HB.out GE347.out⟩⟩
            · replace c6 := Bool.eq_false_iff.mpr c6
              subst c6
              have H1 : (some ((rd_T57 l0 x7_1).f1)) = some r := by rw [if_neg (show ¬ (false = true) by decide)] at H; exact H
              clear H
              have H := H1
              clear H1
              obtain rfl := Option.some.inj H
              have p346 : 0 ≤ (x7_1 : Int) := of_decide_eq_true (by first | (with_reducible assumption) | assumption)
              have q346 : x7_1 < (l0.length : Int) := of_decide_eq_true (by first | (with_reducible assumption) | assumption)
              obtain ⟨ad346, e346, hx346_0, hx346_1⟩ := at_T57 HR0.out x7_1 p346 q346
              (try rw [← Nbq5.out] at hx346_0)
              cases e346
              replace hx346_0 := (HB.out.cell (World.block_lt_of_cell? w _ hx346_0)).trans hx346_0
              replace hx346_1 := (HB.out.cell (World.block_lt_of_cell? w _ hx346_1)).trans hx346_1
              replace p346 := eq_true p346
              replace q346 := eq_true q346
              go_wp2_with (first | ((with_reducible refine gate_dst (N := 4) rfl ?_); refine zX 4 #[.bool false, .int .i64 0] 57 ?_; intro gb347 hg w9 hbox hb; refine zA4 (below_step (zH HB.out) hb) (hbox) ((zS hg (below_size (zH HB.out)) : w.heap.size ≤ gb347)) ((zS hg (below_size (zH HB.out)) : w.heap.size ≤ gb347)) ?_; clear HB; intro HB BK347 GW347 GE347; clear hb hbox hg; obtain ⟨hcz10_0, hcz10_1⟩ := zc2 BK347; obtain ⟨hfz10_0, hfz10_1⟩ := zf2 BK347))
              go_ret
              exact ⟨zE, zH1 HB.out GE347.out⟩
          · rw [if_neg c4] at H
            exact absurd H (by simp)
        · rw [if_neg c3] at H
          exact absurd H (by simp)
      · rw [if_neg c2] at H
        have c2b0 := decide_eq_false c2
        clear c2
        obtain rfl := Option.some.inj H
        go_wp2
        go_ret
        exact ⟨zE, zH HB.out⟩

/-! ### impl_Board_filled: function 34 -/
def impl_Board_filled.l0 : Nat → Int → List Int → Int → Int → Option (Int)
  | 0, _, _, _, _ => none
  | k + 1, x1, x8, x9, x10 => if x10 < x9 then (if 0 ≤ x10 then (if x10 < (x8.length : Int) then (if (Go.bits .andNot .i64 (rd x8 x10) x1) = 0 then (some (rd x8 x10)) else (impl_Board_filled.l0 k x1 x8 x9 (wrap64 (x10 + 1)))) else (none)) else (none)) else (some 0)
def impl_Board_filled.f (k : Nat) (a0_0 : Int) (l0_1 : List Int) (a1 : Int) : Option (Int) := impl_Board_filled.l0 k a1 l0_1 (l0_1.length : Int) 0
theorem impl_Board_filled.mono_l : ∀ k, (∀ y0 y1 y2 y3, LeO (impl_Board_filled.l0 k y0 y1 y2 y3) (impl_Board_filled.l0 (k + 1) y0 y1 y2 y3))
  | 0 => fun _ _ _ _ r h => by simp [impl_Board_filled.l0] at h
  | k + 1 => by
    have ih0 := impl_Board_filled.mono_l k
    · intro y0 y1 y2 y3
      unfold impl_Board_filled.l0
      repeat' first
      | (with_reducible exact ih0 _ _ _ _)
      | (with_reducible exact LeO.refl _)
      | (with_reducible exact LeO.none _)
      | (with_reducible refine LeO.ite ?_ ?_)
      | (with_reducible refine LeO.bind ?_ (fun _ => ?_))
      | exact ih0 _ _ _ _
      | exact LeO.none _
      | refine LeO.ite ?_ ?_
      | refine LeO.bind ?_ (fun _ => ?_)
theorem impl_Board_filled.mono : ∀ a0 a1 a2 k, LeO (impl_Board_filled.f k a0 a1 a2) (impl_Board_filled.f (k + 1) a0 a1 a2) := by
  intro a0 a1 a2 k
  have ih0 := impl_Board_filled.mono_l k
  unfold impl_Board_filled.f
  repeat' first
      | (with_reducible exact ih0 _ _ _ _)
      | (with_reducible exact LeO.refl _)
      | (with_reducible exact LeO.none _)
      | (with_reducible refine LeO.ite ?_ ?_)
      | (with_reducible refine LeO.bind ?_ (fun _ => ?_))
      | exact ih0 _ _ _ _
      | exact LeO.none _
      | refine LeO.ite ?_ ?_
      | refine LeO.bind ?_ (fun _ => ?_)
set_option maxHeartbeats 8000000 in
set_option maxRecDepth 100000 in
theorem impl_Board_filled.calls (k : Nat) (a0_0 : Int) (A0_1 : Option Addr) (c0_1 : Nat) (l0_1 : List Int) (a1 : Int) (r : Int) (w : World) (hr0_1 : Kd.C (Kd.int .i64) w A0_1 l0_1.length l0_1) (hc0_1 : l0_1.length ≤ c0_1) (h : impl_Board_filled.f k a0_0 l0_1 a1 = some r) :
    Calls Try.prog 34 #[.agg #[.int .i64 a0_0, .slice A0_1 l0_1.length c0_1], .int .i64 a1] w fun e w' => e = .returned (.int .i64 r) ∧ Below w.heap.size w w' := by
  have hu26 := Try.underlying26
  have HR0_1 := Aside0.mk hr0_1
  have HC0_1 := Aside0.mk hc0_1
  clear hr0_1 hc0_1
  have HB := Aside0.mk (Below.refl w.heap.size w)
  have H : (impl_Board_filled.l0 k a1 l0_1 (l0_1.length : Int) 0) = some r := h
  clear h
  have H' := Aside0.mk H
  clear H
  go_enter Try.func34, Try.ntmps34
  go_wp2_with (first | ((with_reducible refine gate_dst (N := 2) rfl ?_); refine zX 2 #[.int .i64 a0_0, .slice A0_1 l0_1.length c0_1] 26 ?_; intro gb348 hg w3 hbox hb; refine zA4 (below_step (zH HB.out) hb) (hbox) ((zS hg (below_size (zH HB.out)) : w.heap.size ≤ gb348)) ((zS hg (below_size (zH HB.out)) : w.heap.size ≤ gb348)) ?_; clear HB; intro HB BK348 GW348 GE348; clear hb hbox hg; obtain ⟨hcz4_0, hcz4_1⟩ := zc2 BK348; obtain ⟨hfz4_0, hfz4_1⟩ := zf2 BK348))
  go_loopg [10] k (fun kq v10 w' => ∃ (x10_1 : Int), v10 = .int .i64 x10_1 ∧ Aside0 (impl_Board_filled.l0 kq a1 l0_1 (l0_1.length : Int) x10_1 = some r) ∧ Aside0 (kq ≤ k) ∧ Aside0 (w'.heap[gb348]? = some (.cells #[.int .i64 a0_0, (.slice A0_1 l0_1.length c0_1)] 26 (0, 0))) ∧ Aside0 (Below w.heap.size w w'))
  case atStart => exact ⟨(0), (zF), H', ⟨Nat.le_refl _⟩, ⟨zB BK348.out⟩, ⟨zH1 HB.out GE348.out⟩⟩
  case round =>
    clear H'
    try clear p2
    try clear c3
    try clear hcz4_0
    try clear hcz4_1
    try clear hfz4_0
    try clear hfz4_1
    obtain ⟨x10_1, rfl, HA, HK1, BK348, HB⟩ := hrel
    cases gk with
    | zero => exact absurd HA.out (by simp [impl_Board_filled.l0])
    | succ k1 =>
      have H := HA.out
      clear HA
      simp only [impl_Board_filled.l0] at H
      by_cases c5 : x10_1 < (l0_1.length : Int)
      · rw [if_pos c5] at H
        have c5b0 := decide_eq_true c5
        clear c5
        by_cases c6 : 0 ≤ x10_1
        · rw [if_pos c6] at H
          have c6b0 := decide_eq_true c6
          clear c6
          by_cases c7 : x10_1 < (l0_1.length : Int)
          · rw [if_pos c7] at H
            have c7b0 := decide_eq_true c7
            clear c7
            by_cases c8 : (Go.bits .andNot .i64 (rd l0_1 x10_1) a1) = 0
            · rw [if_pos c8] at H
              have c8b0 := zq1 c8
              have c8b1 := zq2 c8
              clear c8
              obtain rfl := Option.some.inj H
              have p349 : 0 ≤ (x10_1 : Int) := of_decide_eq_true (by first | (with_reducible assumption) | assumption)
              have q349 : x10_1 < (l0_1.length : Int) := of_decide_eq_true (by first | (with_reducible assumption) | assumption)
              obtain ⟨ad349, e349, hx349_0⟩ := Kd.at_int HR0_1.out x10_1 p349 q349
              cases e349
              replace hx349_0 := (HB.out.cell (World.block_lt_of_cell? w _ hx349_0)).trans hx349_0
              replace p349 := eq_true p349
              replace q349 := eq_true q349
              go_wp2
              go_ret
              exact ⟨zE, zH1 HB.out GE348.out⟩
            · rw [if_neg c8] at H
              have c8b0 := zq3 c8
              have c8b1 := zq4 c8
              have H' := Aside0.mk H
              clear H
              have p349 : 0 ≤ (x10_1 : Int) := of_decide_eq_true (by first | (with_reducible assumption) | assumption)
              have q349 : x10_1 < (l0_1.length : Int) := of_decide_eq_true (by first | (with_reducible assumption) | assumption)
              obtain ⟨ad349, e349, hx349_0⟩ := Kd.at_int HR0_1.out x10_1 p349 q349
              cases e349
              replace hx349_0 := (HB.out.cell (World.block_lt_of_cell? w _ hx349_0)).trans hx349_0
              replace p349 := eq_true p349
              replace q349 := eq_true q349
              go_wp2
              go_roundg k1
              case measure => have := HK1.out; omega
              case rel => exact ⟨(wrap64 (x10_1 + 1)), (zF), H', ⟨by have := HK1.out; omega⟩, ⟨zB BK348.out⟩, ⟨zH1 HB.out GE348.out⟩⟩
          · rw [if_neg c7] at H
            exact absurd H (by simp)
        · rw [if_neg c6] at H
          exact absurd H (by simp)
      · rw [if_neg c5] at H
        have c5b0 := decide_eq_false c5
        clear c5
        obtain rfl := Option.some.inj H
        go_wp2
        go_ret
        exact ⟨zE, zH1 HB.out GE348.out⟩

-- NOT PRINTED: function 62 (impl_chosen)

-- NOT PRINTED: function 63 (impl_nodesOf_1)

/-! ### impl_within: function 52 -/
def impl_within.f (a0 : Int) (a1 : Int) (a2 : Int) : Option (Bool) := if a1 ≤ a0 then (some (decide (a0 ≤ a2))) else (some false)
set_option maxHeartbeats 8000000 in
set_option maxRecDepth 100000 in
theorem impl_within.calls (a0 : Int) (a1 : Int) (a2 : Int) (r : Bool) (w : World) (h : impl_within.f a0 a1 a2 = some r) :
    Calls Try.prog 52 #[.int .i64 a0, .int .i64 a1, .int .i64 a2] w fun e w' => e = .returned (.bool r) ∧ Drawn0 w w' := by
  have H : (if a1 ≤ a0 then (some (decide (a0 ≤ a2))) else (some false)) = some r := h
  clear h
  by_cases c4 : a1 ≤ a0
  · rw [if_pos c4] at H
    have c4b0 := decide_eq_true c4
    clear c4
    obtain rfl := Option.some.inj H
    go_enter Try.func52, Try.ntmps52
    go_wp2
    go_ret
    exact ⟨zF, zD⟩
  · rw [if_neg c4] at H
    have c4b0 := decide_eq_false c4
    clear c4
    obtain rfl := Option.some.inj H
    go_enter Try.func52, Try.ntmps52
    go_wp2
    go_ret
    exact ⟨zF, zD⟩

/-! ### impl_isRising: function 55 -/
def impl_isRising.l0 : Nat → List Int → Int → Int → List Int → Int → Int → Option (Bool)
  | 0, _, _, _, _, _, _ => none
  | k + 1, x0, x1, x2, x9, x10, x11 => if x11 < x10 then (if 0 ≤ x11 then (if x11 < (x9.length : Int) then ((impl_within.f (rd x9 x11) x1 x2).bind fun t359 => (if t359 = true then (if x11 > 0 then (if 0 ≤ (wrap64 (x11 - 1)) then (if (wrap64 (x11 - 1)) < (x0.length : Int) then (if (rd x9 x11) ≤ (rd x0 (wrap64 (x11 - 1))) then (some false) else (impl_isRising.l0 k x0 x1 x2 x9 x10 (wrap64 (x11 + 1)))) else (none)) else (none)) else (impl_isRising.l0 k x0 x1 x2 x9 x10 (wrap64 (x11 + 1)))) else (some false))) else (none)) else (none)) else (some true)
def impl_isRising.f (k : Nat) (l0 : List Int) (a1 : Int) (a2 : Int) : Option (Bool) := impl_isRising.l0 k l0 a1 a2 l0 (l0.length : Int) 0
theorem impl_isRising.mono_l : ∀ k, (∀ y0 y1 y2 y3 y4 y5, LeO (impl_isRising.l0 k y0 y1 y2 y3 y4 y5) (impl_isRising.l0 (k + 1) y0 y1 y2 y3 y4 y5))
  | 0 => fun _ _ _ _ _ _ r h => by simp [impl_isRising.l0] at h
  | k + 1 => by
    have ih0 := impl_isRising.mono_l k
    · intro y0 y1 y2 y3 y4 y5
      unfold impl_isRising.l0
      repeat' first
      | (with_reducible exact ih0 _ _ _ _ _ _)
      | (with_reducible exact LeO.refl _)
      | (with_reducible exact LeO.none _)
      | (with_reducible refine LeO.ite ?_ ?_)
      | (with_reducible refine LeO.bind ?_ (fun _ => ?_))
      | exact ih0 _ _ _ _ _ _
      | exact LeO.none _
      | refine LeO.ite ?_ ?_
      | refine LeO.bind ?_ (fun _ => ?_)
theorem impl_isRising.mono : ∀ a0 a1 a2 k, LeO (impl_isRising.f k a0 a1 a2) (impl_isRising.f (k + 1) a0 a1 a2) := by
  intro a0 a1 a2 k
  have ih0 := impl_isRising.mono_l k
  unfold impl_isRising.f
  repeat' first
      | (with_reducible exact ih0 _ _ _ _ _ _)
      | (with_reducible exact LeO.refl _)
      | (with_reducible exact LeO.none _)
      | (with_reducible refine LeO.ite ?_ ?_)
      | (with_reducible refine LeO.bind ?_ (fun _ => ?_))
      | exact ih0 _ _ _ _ _ _
      | exact LeO.none _
      | refine LeO.ite ?_ ?_
      | refine LeO.bind ?_ (fun _ => ?_)
set_option maxHeartbeats 8000000 in
set_option maxRecDepth 100000 in
theorem impl_isRising.calls (k : Nat) (A0 : Option Addr) (c0 : Nat) (l0 : List Int) (a1 : Int) (a2 : Int) (r : Bool) (w : World) (hr0 : Kd.C (Kd.int .i64) w A0 l0.length l0) (hc0 : l0.length ≤ c0) (h : impl_isRising.f k l0 a1 a2 = some r) :
    Calls Try.prog 55 #[.slice A0 l0.length c0, .int .i64 a1, .int .i64 a2] w fun e w' => e = .returned (.bool r) ∧ Drawn0 w w' := by
  have HR0 := Aside0.mk hr0
  have HC0 := Aside0.mk hc0
  clear hr0 hc0
  have H : (impl_isRising.l0 k l0 a1 a2 l0 (l0.length : Int) 0) = some r := h
  clear h
  have H' := Aside0.mk H
  clear H
  go_enter Try.func55, Try.ntmps55
  go_wp2
  go_loopg [11] k (fun kq v11 w' => ∃ (x11_1 : Int), v11 = .int .i64 x11_1 ∧ Aside0 (impl_isRising.l0 kq l0 a1 a2 l0 (l0.length : Int) x11_1 = some r) ∧ Aside0 (kq ≤ k) ∧ Drawn0 w w')
  case atStart => exact ⟨(0), (zF), H', ⟨Nat.le_refl _⟩, zD⟩
  case round =>
    clear H'
    try clear p2
    obtain ⟨x11_1, rfl, HA, HK1, ⟨m1, rfl⟩⟩ := hrel
    cases gk with
    | zero => exact absurd HA.out (by simp [impl_isRising.l0])
    | succ k1 =>
      have H := HA.out
      clear HA
      simp only [impl_isRising.l0] at H
      by_cases c4 : x11_1 < (l0.length : Int)
      · rw [if_pos c4] at H
        have c4b0 := decide_eq_true c4
        clear c4
        by_cases c5 : 0 ≤ x11_1
        · rw [if_pos c5] at H
          have c5b0 := decide_eq_true c5
          clear c5
          by_cases c6 : x11_1 < (l0.length : Int)
          · rw [if_pos c6] at H
            have c6b0 := decide_eq_true c6
            clear c6
            obtain ⟨t359, A7, H⟩ := zb H
            by_cases c8 : t359 = true
            · subst c8
              have H1 : (if x11_1 > 0 then (if 0 ≤ (wrap64 (x11_1 - 1)) then (if (wrap64 (x11_1 - 1)) < (l0.length : Int) then (if (rd l0 x11_1) ≤ (rd l0 (wrap64 (x11_1 - 1))) then (some false) else (impl_isRising.l0 k1 l0 a1 a2 l0 (l0.length : Int) (wrap64 (x11_1 + 1)))) else (none)) else (none)) else (impl_isRising.l0 k1 l0 a1 a2 l0 (l0.length : Int) (wrap64 (x11_1 + 1)))) = some r := by rw [if_pos rfl] at H; exact H
              clear H
              have H := H1
              clear H1
              by_cases c9 : x11_1 > 0
              · rw [if_pos c9] at H
                have c9b0 := decide_eq_true c9
                clear c9
                obtain ⟨ji10, hji10⟩ := zj (wrap64 (x11_1 - 1))
                (first | rw [hji10] at H | simp only [hji10] at H)
                (try rw [hji10] at A7)
                have hji10w : (IntKind.i64.wrap (x11_1 - 1)) = ji10 := (i64_w _).trans hji10
                by_cases c11 : 0 ≤ (ji10)
                · rw [if_pos c11] at H
                  have c11b0 := decide_eq_true c11
                  clear c11
                  by_cases c12 : (ji10) < (l0.length : Int)
                  · rw [if_pos c12] at H
                    have c12b0 := decide_eq_true c12
                    clear c12
                    by_cases c13 : (rd l0 x11_1) ≤ (rd l0 (ji10))
                    · rw [if_pos c13] at H
                      have c13b0 := decide_eq_true c13
                      clear c13
                      obtain rfl := Option.some.inj H
                      have p358 : 0 ≤ (x11_1 : Int) := of_decide_eq_true (by first | (with_reducible assumption) | assumption)
                      have q358 : x11_1 < (l0.length : Int) := of_decide_eq_true (by first | (with_reducible assumption) | assumption)
                      obtain ⟨ad358, e358, hx358_0⟩ := Kd.at_int HR0.out x11_1 p358 q358
                      cases e358
                      replace p358 := eq_true p358
                      replace q358 := eq_true q358
                      go_wp2_with (first | ((with_reducible refine gate_callee (f := 52) rfl ?_); refine goesL_ (some 19) rfl rfl Try.func52 (by kernel_rfl) rfl #[.int .i64 (rd l0 x11_1), .int .i64 a1, .int .i64 a2] rfl zM ?_; (with_reducible refine (impl_within.calls (rd l0 x11_1) a1 a2 true _ A7.out).mono ?_); rintro e w' ⟨rfl, ⟨nd, rfl⟩⟩; refine ⟨_, rfl, ?_⟩; have p360 : 0 ≤ ((ji10) : Int) := of_decide_eq_true (by first | (with_reducible assumption) | assumption); have q360 : (ji10) < (l0.length : Int) := of_decide_eq_true (by first | (with_reducible assumption) | assumption); obtain ⟨ad360, e360, hx360_0⟩ := Kd.at_int HR0.out (ji10) p360 q360; obtain rfl : ad358 = ad360 := (by injection e360); replace p360 := eq_true p360; replace q360 := eq_true q360))
                      go_ret
                      exact ⟨by first | rfl | (simp; done) | (simp only [← hji10] <;> (first | rfl | simp)) | (simp [*]; done), zD⟩
                    · rw [if_neg c13] at H
                      have c13b0 := decide_eq_false c13
                      clear c13
                      have H' := Aside0.mk H
                      clear H
                      have p358 : 0 ≤ (x11_1 : Int) := of_decide_eq_true (by first | (with_reducible assumption) | assumption)
                      have q358 : x11_1 < (l0.length : Int) := of_decide_eq_true (by first | (with_reducible assumption) | assumption)
                      obtain ⟨ad358, e358, hx358_0⟩ := Kd.at_int HR0.out x11_1 p358 q358
                      cases e358
                      replace p358 := eq_true p358
                      replace q358 := eq_true q358
                      go_wp2_with (first | ((with_reducible refine gate_callee (f := 52) rfl ?_); refine goesL_ (some 19) rfl rfl Try.func52 (by kernel_rfl) rfl #[.int .i64 (rd l0 x11_1), .int .i64 a1, .int .i64 a2] rfl zM ?_; (with_reducible refine (impl_within.calls (rd l0 x11_1) a1 a2 true _ A7.out).mono ?_); rintro e w' ⟨rfl, ⟨nd, rfl⟩⟩; refine ⟨_, rfl, ?_⟩; have p360 : 0 ≤ ((ji10) : Int) := of_decide_eq_true (by first | (with_reducible assumption) | assumption); have q360 : (ji10) < (l0.length : Int) := of_decide_eq_true (by first | (with_reducible assumption) | assumption); obtain ⟨ad360, e360, hx360_0⟩ := Kd.at_int HR0.out (ji10) p360 q360; obtain rfl : ad358 = ad360 := (by injection e360); replace p360 := eq_true p360; replace q360 := eq_true q360))
                      go_roundg k1
                      case measure => have := HK1.out; omega
                      case rel => exact ⟨(wrap64 (x11_1 + 1)), (zF), H', ⟨by have := HK1.out; omega⟩, zD⟩
                  · rw [if_neg c12] at H
                    exact absurd H (by simp)
                · rw [if_neg c11] at H
                  exact absurd H (by simp)
              · rw [if_neg c9] at H
                have c9b0 := decide_eq_false c9
                clear c9
                have H' := Aside0.mk H
                clear H
                have p358 : 0 ≤ (x11_1 : Int) := of_decide_eq_true (by first | (with_reducible assumption) | assumption)
                have q358 : x11_1 < (l0.length : Int) := of_decide_eq_true (by first | (with_reducible assumption) | assumption)
                obtain ⟨ad358, e358, hx358_0⟩ := Kd.at_int HR0.out x11_1 p358 q358
                cases e358
                replace p358 := eq_true p358
                replace q358 := eq_true q358
                go_wp2_with (first | ((with_reducible refine gate_callee (f := 52) rfl ?_); refine goesL_ (some 19) rfl rfl Try.func52 (by kernel_rfl) rfl #[.int .i64 (rd l0 x11_1), .int .i64 a1, .int .i64 a2] rfl zM ?_; (with_reducible refine (impl_within.calls (rd l0 x11_1) a1 a2 true _ A7.out).mono ?_); rintro e w' ⟨rfl, ⟨nd, rfl⟩⟩; refine ⟨_, rfl, ?_⟩))
                go_roundg k1
                case measure => have := HK1.out; omega
                case rel => exact ⟨(wrap64 (x11_1 + 1)), (zF), H', ⟨by have := HK1.out; omega⟩, zD⟩
            · replace c8 := Bool.eq_false_iff.mpr c8
              subst c8
              have H1 : (some false) = some r := by rw [if_neg (show ¬ (false = true) by decide)] at H; exact H
              clear H
              have H := H1
              clear H1
              obtain rfl := Option.some.inj H
              have p358 : 0 ≤ (x11_1 : Int) := of_decide_eq_true (by first | (with_reducible assumption) | assumption)
              have q358 : x11_1 < (l0.length : Int) := of_decide_eq_true (by first | (with_reducible assumption) | assumption)
              obtain ⟨ad358, e358, hx358_0⟩ := Kd.at_int HR0.out x11_1 p358 q358
              cases e358
              replace p358 := eq_true p358
              replace q358 := eq_true q358
              go_wp2_with (first | ((with_reducible refine gate_callee (f := 52) rfl ?_); refine goesL_ (some 19) rfl rfl Try.func52 (by kernel_rfl) rfl #[.int .i64 (rd l0 x11_1), .int .i64 a1, .int .i64 a2] rfl zM ?_; (with_reducible refine (impl_within.calls (rd l0 x11_1) a1 a2 false _ A7.out).mono ?_); rintro e w' ⟨rfl, ⟨nd, rfl⟩⟩; refine ⟨_, rfl, ?_⟩))
              go_ret
              exact ⟨zF, zD⟩
          · rw [if_neg c6] at H
            exact absurd H (by simp)
        · rw [if_neg c5] at H
          exact absurd H (by simp)
      · rw [if_neg c4] at H
        have c4b0 := decide_eq_false c4
        clear c4
        obtain rfl := Option.some.inj H
        go_wp2
        go_ret
        exact ⟨zF, zD⟩

/-! ### impl_IsBoard: function 33 -/
def impl_IsBoard.f (k : Nat) (a0_0 : Int) (l0_1 : List Int) : Option (Bool) := (impl_within.f a0_0 1 16).bind fun t362 => (if t362 = true then (if (l0_1.length : Int) ≤ 100 then (if 0 ≤ a0_0 then ((impl_isRising.f k l0_1 1 (wrap64 ((shl .i64 1 a0_0) - 1))).bind fun t363 => (some t363)) else (none)) else (some false)) else (some false))
theorem impl_IsBoard.mono : ∀ a0 a1 k, LeO (impl_IsBoard.f k a0 a1) (impl_IsBoard.f (k + 1) a0 a1) := by
  intro a0 a1 k
  unfold impl_IsBoard.f
  repeat' first
      | (with_reducible exact impl_isRising.mono _ _ _ _)
      | (with_reducible exact LeO.refl _)
      | (with_reducible exact LeO.none _)
      | (with_reducible refine LeO.ite ?_ ?_)
      | (with_reducible refine LeO.bind ?_ (fun _ => ?_))
      | exact impl_isRising.mono _ _ _ _
      | exact LeO.none _
      | refine LeO.ite ?_ ?_
      | refine LeO.bind ?_ (fun _ => ?_)
set_option maxHeartbeats 8000000 in
set_option maxRecDepth 100000 in
theorem impl_IsBoard.calls (k : Nat) (a0_0 : Int) (A0_1 : Option Addr) (c0_1 : Nat) (l0_1 : List Int) (r : Bool) (w : World) (hr0_1 : Kd.C (Kd.int .i64) w A0_1 l0_1.length l0_1) (hc0_1 : l0_1.length ≤ c0_1) (h : impl_IsBoard.f k a0_0 l0_1 = some r) :
    Calls Try.prog 33 #[.agg #[.int .i64 a0_0, .slice A0_1 l0_1.length c0_1]] w fun e w' => e = .returned (.bool r) ∧ Below w.heap.size w w' := by
  have hu26 := Try.underlying26
  have HR0_1 := Aside0.mk hr0_1
  have HC0_1 := Aside0.mk hc0_1
  clear hr0_1 hc0_1
  have HB := Aside0.mk (Below.refl w.heap.size w)
  have H : ((impl_within.f a0_0 1 16).bind fun t362 => (if t362 = true then (if (l0_1.length : Int) ≤ 100 then (if 0 ≤ a0_0 then ((impl_isRising.f k l0_1 1 (wrap64 ((shl .i64 1 a0_0) - 1))).bind fun t363 => (some t363)) else (none)) else (some false)) else (some false))) = some r := h
  clear h
  obtain ⟨t362, A2, H⟩ := zb H
  by_cases c3 : t362 = true
  · subst c3
    have H1 : (if (l0_1.length : Int) ≤ 100 then (if 0 ≤ a0_0 then ((impl_isRising.f k l0_1 1 (wrap64 ((shl .i64 1 a0_0) - 1))).bind fun t363 => (some t363)) else (none)) else (some false)) = some r := by rw [if_pos rfl] at H; exact H
    clear H
    have H := H1
    clear H1
    by_cases c4 : (l0_1.length : Int) ≤ 100
    · rw [if_pos c4] at H
      have c4b0 := decide_eq_true c4
      have c4b1 : decide (l0_1.length ≤ 100) = true := decide_eq_true (by omega)
      clear c4
      by_cases c5 : 0 ≤ a0_0
      · rw [if_pos c5] at H
        have c5b0 := eq_true c5
        have c5b1 := decide_eq_true c5
        clear c5
        obtain ⟨ji6, hji6⟩ := zj (shl .i64 1 a0_0)
        (first | rw [hji6] at H | simp only [hji6] at H)
        (try rw [hji6] at A2)
        have hji6_ : (IntKind.i64.wrap (1 * 2 ^ min a0_0.toNat 64)) = ji6 := hji6
        have hji6z : a0_0 ≤ 64 → (IntKind.i64.wrap (1 * 2 ^ a0_0.toNat)) = ji6 := shl_small hji6
        have hji6u : (IntKind.i64.wrap (2 ^ min a0_0.toNat 64)) = ji6 := by have h_ := hji6_; rw [Int.one_mul] at h_; exact h_
        have hji6v : a0_0 ≤ 64 → (IntKind.i64.wrap (2 ^ a0_0.toNat)) = ji6 := fun hle_ => by have h_ := hji6z hle_; rw [Int.one_mul] at h_; exact h_
        have hji6y : (wrap64 (1 * 2 ^ min a0_0.toNat 64)) = ji6 := (i64_w _).symm.trans hji6_
        have hji6x : a0_0 ≤ 64 → (wrap64 (1 * 2 ^ a0_0.toNat)) = ji6 := fun h_ => (i64_w _).symm.trans (hji6z h_)
        obtain ⟨t363, A7, H⟩ := zb H
        obtain rfl := Option.some.inj H
        go_enter Try.func33, Try.ntmps33
        go_wp2_with (first | ((with_reducible refine gate_dst (N := 1) rfl ?_); (try (refine gate_guard (by rfl) ?_; dsimp only)); refine zX 1 #[.int .i64 a0_0, .slice A0_1 l0_1.length c0_1] 26 ?_; intro gb361 hg w8 hbox hb; refine zA4 (below_step (zH HB.out) hb) (hbox) ((zS hg (below_size (zH HB.out)) : w.heap.size ≤ gb361)) ((zS hg (below_size (zH HB.out)) : w.heap.size ≤ gb361)) ?_; clear HB; intro HB BK361 GW361 GE361; clear hb hbox hg; obtain ⟨hcz9_0, hcz9_1⟩ := zc2 BK361; obtain ⟨hfz9_0, hfz9_1⟩ := zf2 BK361) | (go_at_call 52; (with_reducible refine (impl_within.calls a0_0 1 16 true _ A2.out).mono ?_); rintro e w' ⟨rfl, ⟨nd, rfl⟩⟩; (try first | exact ⟨rfl, _, World.drewN_drewN _ _ _⟩ | exact ⟨rfl, _, Eq.trans (World.drewN_drewN _ _ _) (congrArg (World.drewN _) (Nat.add_assoc _ _ _))⟩)) | (go_at_call 55; (with_reducible refine (impl_isRising.calls k _ _ l0_1 1 (wrap64 ((ji6) - 1)) t363 _ ?side1 ?side2 A7.out).mono ?_); (case side1 => repeat (first | exact (Kd.C_below HR0_1.out (zH1 HB.out GE361.out)) | (with_reducible refine Kd.C_alloc ?_ _) | (with_reducible refine Kd.C_drewN ?_ _) | (with_reducible refine Kd.C_drew ?_))); (case side2 => exact HC0_1.out); rintro e w' ⟨rfl, ⟨nd, rfl⟩⟩; (try first | exact ⟨rfl, _, World.drewN_drewN _ _ _⟩ | exact ⟨rfl, _, Eq.trans (World.drewN_drewN _ _ _) (congrArg (World.drewN _) (Nat.add_assoc _ _ _))⟩)))
        repeat (go_quiet (first | ((with_reducible refine gate_dst (N := 1) rfl ?_); (try (refine gate_guard (by rfl) ?_; dsimp only)); refine zX 1 #[.int .i64 a0_0, .slice A0_1 l0_1.length c0_1] 26 ?_; intro gb361 hg w8 hbox hb; refine zA4 (below_step (zH HB.out) hb) (hbox) ((zS hg (below_size (zH HB.out)) : w.heap.size ≤ gb361)) ((zS hg (below_size (zH HB.out)) : w.heap.size ≤ gb361)) ?_; clear HB; intro HB BK361 GW361 GE361; clear hb hbox hg; obtain ⟨hcz9_0, hcz9_1⟩ := zc2 BK361; obtain ⟨hfz9_0, hfz9_1⟩ := zf2 BK361) | (go_at_call 52; (with_reducible refine (impl_within.calls a0_0 1 16 true _ A2.out).mono ?_); rintro e w' ⟨rfl, ⟨nd, rfl⟩⟩; (try first | exact ⟨rfl, _, World.drewN_drewN _ _ _⟩ | exact ⟨rfl, _, Eq.trans (World.drewN_drewN _ _ _) (congrArg (World.drewN _) (Nat.add_assoc _ _ _))⟩)) | (go_at_call 55; (with_reducible refine (impl_isRising.calls k _ _ l0_1 1 (wrap64 ((ji6) - 1)) t363 _ ?side1 ?side2 A7.out).mono ?_); (case side1 => repeat (first | exact (Kd.C_below HR0_1.out (zH1 HB.out GE361.out)) | (with_reducible refine Kd.C_alloc ?_ _) | (with_reducible refine Kd.C_drewN ?_ _) | (with_reducible refine Kd.C_drew ?_))); (case side2 => exact HC0_1.out); rintro e w' ⟨rfl, ⟨nd, rfl⟩⟩; (try first | exact ⟨rfl, _, World.drewN_drewN _ _ _⟩ | exact ⟨rfl, _, Eq.trans (World.drewN_drewN _ _ _) (congrArg (World.drewN _) (Nat.add_assoc _ _ _))⟩))); try go_wp2_with (first | ((with_reducible refine gate_dst (N := 1) rfl ?_); (try (refine gate_guard (by rfl) ?_; dsimp only)); refine zX 1 #[.int .i64 a0_0, .slice A0_1 l0_1.length c0_1] 26 ?_; intro gb361 hg w8 hbox hb; refine zA4 (below_step (zH HB.out) hb) (hbox) ((zS hg (below_size (zH HB.out)) : w.heap.size ≤ gb361)) ((zS hg (below_size (zH HB.out)) : w.heap.size ≤ gb361)) ?_; clear HB; intro HB BK361 GW361 GE361; clear hb hbox hg; obtain ⟨hcz9_0, hcz9_1⟩ := zc2 BK361; obtain ⟨hfz9_0, hfz9_1⟩ := zf2 BK361) | (go_at_call 52; (with_reducible refine (impl_within.calls a0_0 1 16 true _ A2.out).mono ?_); rintro e w' ⟨rfl, ⟨nd, rfl⟩⟩; (try first | exact ⟨rfl, _, World.drewN_drewN _ _ _⟩ | exact ⟨rfl, _, Eq.trans (World.drewN_drewN _ _ _) (congrArg (World.drewN _) (Nat.add_assoc _ _ _))⟩)) | (go_at_call 55; (with_reducible refine (impl_isRising.calls k _ _ l0_1 1 (wrap64 ((ji6) - 1)) t363 _ ?side1 ?side2 A7.out).mono ?_); (case side1 => repeat (first | exact (Kd.C_below HR0_1.out (zH1 HB.out GE361.out)) | (with_reducible refine Kd.C_alloc ?_ _) | (with_reducible refine Kd.C_drewN ?_ _) | (with_reducible refine Kd.C_drew ?_))); (case side2 => exact HC0_1.out); rintro e w' ⟨rfl, ⟨nd, rfl⟩⟩; (try first | exact ⟨rfl, _, World.drewN_drewN _ _ _⟩ | exact ⟨rfl, _, Eq.trans (World.drewN_drewN _ _ _) (congrArg (World.drewN _) (Nat.add_assoc _ _ _))⟩))))
        go_ret
        exact ⟨by first | rfl | (simp [errW_none, errW_some] <;> rfl) | (simp only [← hji6]; first | rfl | (simp [errW_none, errW_some] <;> rfl)) | (simp [*, errW_none, errW_some] <;> rfl), zH1 HB.out GE361.out⟩
      · rw [if_neg c5] at H
        exact absurd H (by simp)
    · rw [if_neg c4] at H
      have c4b0 := decide_eq_false c4
      have c4b1 : decide (l0_1.length ≤ 100) = false := decide_eq_false (by omega)
      clear c4
      obtain rfl := Option.some.inj H
      go_enter Try.func33, Try.ntmps33
      go_wp2_with (first | ((with_reducible refine gate_dst (N := 1) rfl ?_); (try (refine gate_guard (by rfl) ?_; dsimp only)); refine zX 1 #[.int .i64 a0_0, .slice A0_1 l0_1.length c0_1] 26 ?_; intro gb361 hg w10 hbox hb; refine zA4 (below_step (zH HB.out) hb) (hbox) ((zS hg (below_size (zH HB.out)) : w.heap.size ≤ gb361)) ((zS hg (below_size (zH HB.out)) : w.heap.size ≤ gb361)) ?_; clear HB; intro HB BK361 GW361 GE361; clear hb hbox hg; obtain ⟨hcz11_0, hcz11_1⟩ := zc2 BK361; obtain ⟨hfz11_0, hfz11_1⟩ := zf2 BK361) | (go_at_call 52; (with_reducible refine (impl_within.calls a0_0 1 16 true _ A2.out).mono ?_); rintro e w' ⟨rfl, ⟨nd, rfl⟩⟩; (try first | exact ⟨rfl, _, World.drewN_drewN _ _ _⟩ | exact ⟨rfl, _, Eq.trans (World.drewN_drewN _ _ _) (congrArg (World.drewN _) (Nat.add_assoc _ _ _))⟩)))
      repeat (go_quiet (first | ((with_reducible refine gate_dst (N := 1) rfl ?_); (try (refine gate_guard (by rfl) ?_; dsimp only)); refine zX 1 #[.int .i64 a0_0, .slice A0_1 l0_1.length c0_1] 26 ?_; intro gb361 hg w10 hbox hb; refine zA4 (below_step (zH HB.out) hb) (hbox) ((zS hg (below_size (zH HB.out)) : w.heap.size ≤ gb361)) ((zS hg (below_size (zH HB.out)) : w.heap.size ≤ gb361)) ?_; clear HB; intro HB BK361 GW361 GE361; clear hb hbox hg; obtain ⟨hcz11_0, hcz11_1⟩ := zc2 BK361; obtain ⟨hfz11_0, hfz11_1⟩ := zf2 BK361) | (go_at_call 52; (with_reducible refine (impl_within.calls a0_0 1 16 true _ A2.out).mono ?_); rintro e w' ⟨rfl, ⟨nd, rfl⟩⟩; (try first | exact ⟨rfl, _, World.drewN_drewN _ _ _⟩ | exact ⟨rfl, _, Eq.trans (World.drewN_drewN _ _ _) (congrArg (World.drewN _) (Nat.add_assoc _ _ _))⟩))); try go_wp2_with (first | ((with_reducible refine gate_dst (N := 1) rfl ?_); (try (refine gate_guard (by rfl) ?_; dsimp only)); refine zX 1 #[.int .i64 a0_0, .slice A0_1 l0_1.length c0_1] 26 ?_; intro gb361 hg w10 hbox hb; refine zA4 (below_step (zH HB.out) hb) (hbox) ((zS hg (below_size (zH HB.out)) : w.heap.size ≤ gb361)) ((zS hg (below_size (zH HB.out)) : w.heap.size ≤ gb361)) ?_; clear HB; intro HB BK361 GW361 GE361; clear hb hbox hg; obtain ⟨hcz11_0, hcz11_1⟩ := zc2 BK361; obtain ⟨hfz11_0, hfz11_1⟩ := zf2 BK361) | (go_at_call 52; (with_reducible refine (impl_within.calls a0_0 1 16 true _ A2.out).mono ?_); rintro e w' ⟨rfl, ⟨nd, rfl⟩⟩; (try first | exact ⟨rfl, _, World.drewN_drewN _ _ _⟩ | exact ⟨rfl, _, Eq.trans (World.drewN_drewN _ _ _) (congrArg (World.drewN _) (Nat.add_assoc _ _ _))⟩))))
      go_ret
      exact ⟨zE, zH1 HB.out GE361.out⟩
  · replace c3 := Bool.eq_false_iff.mpr c3
    subst c3
    have H1 : (some false) = some r := by rw [if_neg (show ¬ (false = true) by decide)] at H; exact H
    clear H
    have H := H1
    clear H1
    obtain rfl := Option.some.inj H
    go_enter Try.func33, Try.ntmps33
    go_wp2_with (first | ((with_reducible refine gate_dst (N := 1) rfl ?_); (try (refine gate_guard (by rfl) ?_; dsimp only)); refine zX 1 #[.int .i64 a0_0, .slice A0_1 l0_1.length c0_1] 26 ?_; intro gb361 hg w12 hbox hb; refine zA4 (below_step (zH HB.out) hb) (hbox) ((zS hg (below_size (zH HB.out)) : w.heap.size ≤ gb361)) ((zS hg (below_size (zH HB.out)) : w.heap.size ≤ gb361)) ?_; clear HB; intro HB BK361 GW361 GE361; clear hb hbox hg; obtain ⟨hcz13_0, hcz13_1⟩ := zc2 BK361; obtain ⟨hfz13_0, hfz13_1⟩ := zf2 BK361) | (go_at_call 52; (with_reducible refine (impl_within.calls a0_0 1 16 false _ A2.out).mono ?_); rintro e w' ⟨rfl, ⟨nd, rfl⟩⟩; (try first | exact ⟨rfl, _, World.drewN_drewN _ _ _⟩ | exact ⟨rfl, _, Eq.trans (World.drewN_drewN _ _ _) (congrArg (World.drewN _) (Nat.add_assoc _ _ _))⟩)))
    repeat (go_quiet (first | ((with_reducible refine gate_dst (N := 1) rfl ?_); (try (refine gate_guard (by rfl) ?_; dsimp only)); refine zX 1 #[.int .i64 a0_0, .slice A0_1 l0_1.length c0_1] 26 ?_; intro gb361 hg w12 hbox hb; refine zA4 (below_step (zH HB.out) hb) (hbox) ((zS hg (below_size (zH HB.out)) : w.heap.size ≤ gb361)) ((zS hg (below_size (zH HB.out)) : w.heap.size ≤ gb361)) ?_; clear HB; intro HB BK361 GW361 GE361; clear hb hbox hg; obtain ⟨hcz13_0, hcz13_1⟩ := zc2 BK361; obtain ⟨hfz13_0, hfz13_1⟩ := zf2 BK361) | (go_at_call 52; (with_reducible refine (impl_within.calls a0_0 1 16 false _ A2.out).mono ?_); rintro e w' ⟨rfl, ⟨nd, rfl⟩⟩; (try first | exact ⟨rfl, _, World.drewN_drewN _ _ _⟩ | exact ⟨rfl, _, Eq.trans (World.drewN_drewN _ _ _) (congrArg (World.drewN _) (Nat.add_assoc _ _ _))⟩))); try go_wp2_with (first | ((with_reducible refine gate_dst (N := 1) rfl ?_); (try (refine gate_guard (by rfl) ?_; dsimp only)); refine zX 1 #[.int .i64 a0_0, .slice A0_1 l0_1.length c0_1] 26 ?_; intro gb361 hg w12 hbox hb; refine zA4 (below_step (zH HB.out) hb) (hbox) ((zS hg (below_size (zH HB.out)) : w.heap.size ≤ gb361)) ((zS hg (below_size (zH HB.out)) : w.heap.size ≤ gb361)) ?_; clear HB; intro HB BK361 GW361 GE361; clear hb hbox hg; obtain ⟨hcz13_0, hcz13_1⟩ := zc2 BK361; obtain ⟨hfz13_0, hfz13_1⟩ := zf2 BK361) | (go_at_call 52; (with_reducible refine (impl_within.calls a0_0 1 16 false _ A2.out).mono ?_); rintro e w' ⟨rfl, ⟨nd, rfl⟩⟩; (try first | exact ⟨rfl, _, World.drewN_drewN _ _ _⟩ | exact ⟨rfl, _, Eq.trans (World.drewN_drewN _ _ _) (congrArg (World.drewN _) (Nat.add_assoc _ _ _))⟩))))
    go_ret
    exact ⟨zE, zH1 HB.out GE361.out⟩

/-! ### impl_setsCode: function 28 -/
def impl_setsCode.f (k : Nat) (a0_0 : Int) (l0_1 : List Int) (a1 : Int) (a2 : Int) : Option (Int) := (impl_IsBoard.f k a0_0 l0_1).bind fun t365 => ((impl_within.f a1 0 (wrap64 ((wrap64 (2 ^ (mx (mn a0_0 16) 0).toNat)) - 1))).bind fun t366 => (if t366 = true then ((impl_within.f a2 0 (wrap64 ((wrap64 (2 ^ (mx (mn a0_0 16) 0).toNat)) - 1))).bind fun t367 => ((impl_first.f k (([(⟨t365, 1⟩ : S57), (⟨t367, 2⟩ : S57)] : List (S57)))).bind fun t371 => (some t371))) else ((impl_first.f k (([(⟨t365, 1⟩ : S57), (⟨false, 2⟩ : S57)] : List (S57)))).bind fun t375 => (some t375))))
theorem impl_setsCode.mono : ∀ a0 a1 a2 a3 k, LeO (impl_setsCode.f k a0 a1 a2 a3) (impl_setsCode.f (k + 1) a0 a1 a2 a3) := by
  intro a0 a1 a2 a3 k
  unfold impl_setsCode.f
  repeat' first
      | (with_reducible exact impl_IsBoard.mono _ _ _)
      | (with_reducible exact impl_first.mono _ _)
      | (with_reducible exact LeO.refl _)
      | (with_reducible exact LeO.none _)
      | (with_reducible refine LeO.ite ?_ ?_)
      | (with_reducible refine LeO.bind ?_ (fun _ => ?_))
      | exact impl_IsBoard.mono _ _ _
      | exact impl_first.mono _ _
      | exact LeO.none _
      | refine LeO.ite ?_ ?_
      | refine LeO.bind ?_ (fun _ => ?_)
set_option maxHeartbeats 8000000 in
set_option maxRecDepth 100000 in
theorem impl_setsCode.calls (k : Nat) (a0_0 : Int) (A0_1 : Option Addr) (c0_1 : Nat) (l0_1 : List Int) (a1 : Int) (a2 : Int) (r : Int) (w : World) (hr0_1 : Kd.C (Kd.int .i64) w A0_1 l0_1.length l0_1) (hc0_1 : l0_1.length ≤ c0_1) (h : impl_setsCode.f k a0_0 l0_1 a1 a2 = some r) :
    Calls Try.prog 28 #[.agg #[.int .i64 a0_0, .slice A0_1 l0_1.length c0_1], .int .i64 a1, .int .i64 a2] w fun e w' => e = .returned (.int .i64 r) ∧ Below w.heap.size w w' := by
  have hu26 := Try.underlying26
  have hu57 := Try.underlying57
  have HR0_1 := Aside0.mk hr0_1
  have HC0_1 := Aside0.mk hc0_1
  clear hr0_1 hc0_1
  have HB := Aside0.mk (Below.refl w.heap.size w)
  have H : ((impl_IsBoard.f k a0_0 l0_1).bind fun t365 => ((impl_within.f a1 0 (wrap64 ((wrap64 (2 ^ (mx (mn a0_0 16) 0).toNat)) - 1))).bind fun t366 => (if t366 = true then ((impl_within.f a2 0 (wrap64 ((wrap64 (2 ^ (mx (mn a0_0 16) 0).toNat)) - 1))).bind fun t367 => ((impl_first.f k (([(⟨t365, 1⟩ : S57), (⟨t367, 2⟩ : S57)] : List (S57)))).bind fun t371 => (some t371))) else ((impl_first.f k (([(⟨t365, 1⟩ : S57), (⟨false, 2⟩ : S57)] : List (S57)))).bind fun t375 => (some t375))))) = some r := h
  clear h
  obtain ⟨ji4, hji4⟩ := zj (mn a0_0 16)
  (first | rw [hji4] at H | simp only [hji4] at H)
  (try (have hji4h : ji4 ≤ 16 := by (rw [← hji4]; unfold mn; (repeat' split) <;> omega)))
  (try (have hji4g : ji4 ≤ 64 := by omega))
  have hji4_ : (if 16 < a0_0 then 16 else a0_0) = ji4 := hji4
  obtain ⟨ji5, hji5⟩ := zj (mx (ji4) 0)
  (first | rw [hji5] at H | simp only [hji5] at H)
  have hji5_ : (if (ji4) < 0 then 0 else (ji4)) = ji5 := hji5
  obtain ⟨t365, A6, H⟩ := zb H
  obtain ⟨t366, A7, H⟩ := zb H
  by_cases c8 : t366 = true
  · subst c8
    have H1 : ((impl_within.f a2 0 (wrap64 ((wrap64 (2 ^ (ji5).toNat)) - 1))).bind fun t367 => ((impl_first.f k (([(⟨t365, 1⟩ : S57), (⟨t367, 2⟩ : S57)] : List (S57)))).bind fun t371 => (some t371))) = some r := by rw [if_pos rfl] at H; exact H
    clear H
    have H := H1
    clear H1
    obtain ⟨t367, A9, H⟩ := zb H
    obtain ⟨y368, hy368⟩ : ∃ y_ : List (S57), y_ = (([(⟨t365, 1⟩ : S57), (⟨t367, 2⟩ : S57)] : List (S57))) := ⟨_, rfl⟩
    replace H : ((impl_first.f k y368).bind fun t371 => (some t371)) = some r := by first | (rw [hy368]; with_reducible exact H) | (have H2_ := (Option.bind_some _ _).symm.trans H; rw [hy368]; with_reducible exact H2_) | (have H2_ := (Option.bind_some _ _).symm.trans H; with_reducible exact H2_) | with_reducible exact H | (rw [hy368]; exact H) | exact H
    have Ny368 := Aside0.mk hy368
    clear hy368
    obtain ⟨t371, A10, H⟩ := zb H
    obtain rfl := Option.some.inj H
    go_enter Try.func28, Try.ntmps28
    go_wp2_with (first | ((with_reducible refine gate_dst (N := 3) rfl ?_); refine zX 3 #[.int .i64 a0_0, .slice A0_1 l0_1.length c0_1] 26 ?_; intro gb364 hg w11 hbox hb; refine zA4 (below_step (zH HB.out) hb) (hbox) ((zS hg (below_size (zH HB.out)) : w.heap.size ≤ gb364)) ((zS hg (below_size (zH HB.out)) : w.heap.size ≤ gb364)) ?_; clear HB; intro HB BK364 GW364 GE364; clear hb hbox hg; obtain ⟨hcz12_0, hcz12_1⟩ := zc2 BK364; obtain ⟨hfz12_0, hfz12_1⟩ := zf2 BK364) | ((with_reducible refine gate_callee (f := 33) rfl ?_); refine goesL_ (some 15) rfl rfl Try.func33 (by kernel_rfl) rfl #[.agg #[.int .i64 a0_0, .slice A0_1 l0_1.length c0_1]] rfl zM ?_; (with_reducible refine (impl_IsBoard.calls k a0_0 _ _ l0_1 t365 _ ?side1 ?side2 A6.out).mono ?_); (case side1 => repeat (first | exact (Kd.C_below HR0_1.out HB.out) | (with_reducible refine Kd.C_alloc ?_ _) | (with_reducible refine Kd.C_drewN ?_ _) | (with_reducible refine Kd.C_drew ?_))); (case side2 => exact HC0_1.out); rintro e w13 ⟨rfl, hb⟩; refine ⟨_, rfl, ?_⟩; refine zA2 (blk_below (g := gb364) (o := .cells #[.int .i64 a0_0, .slice A0_1 l0_1.length c0_1] 26 (0, 0)) (zB BK364.out) hb) (below_step (zH1 HB.out GE364.out) hb) ?_; clear BK364 HB; intro BK364 HB; (try clear hb); (try clear hb2); (try clear hk); (try clear hi)) | ((with_reducible refine gate_callee (f := 52) rfl ?_); refine goesL_ (some 19) rfl rfl Try.func52 (by kernel_rfl) rfl #[.int .i64 a1, .int .i64 0, .int .i64 (wrap64 ((wrap64 (2 ^ (ji5).toNat)) - 1))] rfl (zM1 hji5) ?_; (with_reducible refine (impl_within.calls a1 0 (wrap64 ((wrap64 (2 ^ (ji5).toNat)) - 1)) true _ A7.out).mono ?_); rintro e w' ⟨rfl, ⟨nd, rfl⟩⟩; refine ⟨_, rfl, ?_⟩) | (go_at_call 52; (with_reducible refine (impl_within.calls a2 0 (wrap64 ((wrap64 (2 ^ (ji5).toNat)) - 1)) t367 _ A9.out).mono ?_); rintro e w' ⟨rfl, ⟨nd, rfl⟩⟩) | ((with_reducible refine gate_dst (N := 26) rfl ?_); refine Kd.R_lit k57 _ 57 ?hg (N := 26) ?hd (xs := ([(⟨t365, 1⟩ : S57), (⟨t367, 2⟩ : S57)] : List (S57))) (inner := [.bool t365, .int .i64 1, .bool t367, .int .i64 2]) (ok := fun _ => True) (okp := fun _ => True) ?hr ?hp (fun _ hk => hk) trivial (Below.refl _ _) (Nat.le_refl _) (by simp) ?_; (case hd => rfl); (case hg => rfl); (case hr => first | (go_simp; done) | (go_simp; rfl)); (case hp => exact (Reps.c2 (show Kd.M k57 _ _ _ (⟨t365, 1⟩ : S57) [.bool t365, .int .i64 1] from (k57_mkM _ _ _ (⟨t365, 1⟩ : S57) )) (Reps.c2 (show Kd.M k57 _ _ _ (⟨t367, 2⟩ : S57) [.bool t367, .int .i64 2] from (k57_mkM _ _ _ (⟨t367, 2⟩ : S57) )) (Reps.none _ _)))); intro v369 w14 ho15 hb hg_ hnew_; clear hg_ hnew_; (first | rw [← Ny368.out] at ho15 | (simp only [Int.reduceToNat] at ho15; rw [← Ny368.out] at ho15)); refine zA3 (Kd.R_lower ho15 (below_size (zH1 HB.out GE364.out))) (blk_below (g := gb364) (o := .cells #[.int .i64 a0_0, .slice A0_1 l0_1.length c0_1] 26 (0, 0)) (zB BK364.out) hb) (below_step (zH1 HB.out GE364.out) hb) ?_; clear BK364 HB; intro HO370 BK364 HB; clear hb ho15; obtain ⟨Ao16, co16, eo16⟩ := Kd.R_slice HO370.out; subst eo16) | ((with_reducible refine gate_callee (f := 32) rfl ?_); refine goesL_ (some 27) rfl rfl Try.func32 (by kernel_rfl) rfl #[.slice Ao16 y368.length co16] rfl zM ?_; (with_reducible refine (impl_first.calls k _ _ y368 t371 _ ?side1 ?side2 A10.out).mono ?_); (case side1 => repeat (first | exact (Kd.R_reads' HO370.out).2.2 | (with_reducible refine Kd.C_alloc ?_ _) | (with_reducible refine Kd.C_drewN ?_ _) | (with_reducible refine Kd.C_drew ?_))); (case side2 => exact (Kd.R_reads' HO370.out).2.1); rintro e w17 ⟨rfl, hb⟩; refine ⟨_, rfl, ?_⟩; refine zA3 (Kd.R_below (zR HO370.out) hb) (blk_below (g := gb364) (o := .cells #[.int .i64 a0_0, .slice A0_1 l0_1.length c0_1] 26 (0, 0)) (zB BK364.out) hb) (below_step (zH1 HB.out GE364.out) hb) ?_; clear HO370 BK364 HB; intro HO370 BK364 HB; (try clear hb); (try clear hb2); (try clear hk); (try clear hi)))
    go_ret
    exact ⟨by first | rfl | (simp [errW_none, errW_some] <;> rfl) | (simp only [← hji4, ← hji5]; first | rfl | (simp [errW_none, errW_some] <;> rfl)) | (simp [*, errW_none, errW_some] <;> rfl), zH1 HB.out GE364.out⟩
  · replace c8 := Bool.eq_false_iff.mpr c8
    subst c8
    have H1 : ((impl_first.f k (([(⟨t365, 1⟩ : S57), (⟨false, 2⟩ : S57)] : List (S57)))).bind fun t375 => (some t375)) = some r := by rw [if_neg (show ¬ (false = true) by decide)] at H; exact H
    clear H
    have H := H1
    clear H1
    obtain ⟨y372, hy372⟩ : ∃ y_ : List (S57), y_ = (([(⟨t365, 1⟩ : S57), (⟨false, 2⟩ : S57)] : List (S57))) := ⟨_, rfl⟩
    replace H : ((impl_first.f k y372).bind fun t375 => (some t375)) = some r := by first | (rw [hy372]; with_reducible exact H) | (have H2_ := (Option.bind_some _ _).symm.trans H; rw [hy372]; with_reducible exact H2_) | (have H2_ := (Option.bind_some _ _).symm.trans H; with_reducible exact H2_) | with_reducible exact H | (rw [hy372]; exact H) | exact H
    have Ny372 := Aside0.mk hy372
    clear hy372
    obtain ⟨t375, A18, H⟩ := zb H
    obtain rfl := Option.some.inj H
    go_enter Try.func28, Try.ntmps28
    go_wp2_with (first | ((with_reducible refine gate_dst (N := 3) rfl ?_); refine zX 3 #[.int .i64 a0_0, .slice A0_1 l0_1.length c0_1] 26 ?_; intro gb364 hg w19 hbox hb; refine zA4 (below_step (zH HB.out) hb) (hbox) ((zS hg (below_size (zH HB.out)) : w.heap.size ≤ gb364)) ((zS hg (below_size (zH HB.out)) : w.heap.size ≤ gb364)) ?_; clear HB; intro HB BK364 GW364 GE364; clear hb hbox hg; obtain ⟨hcz20_0, hcz20_1⟩ := zc2 BK364; obtain ⟨hfz20_0, hfz20_1⟩ := zf2 BK364) | ((with_reducible refine gate_callee (f := 33) rfl ?_); refine goesL_ (some 15) rfl rfl Try.func33 (by kernel_rfl) rfl #[.agg #[.int .i64 a0_0, .slice A0_1 l0_1.length c0_1]] rfl zM ?_; (with_reducible refine (impl_IsBoard.calls k a0_0 _ _ l0_1 t365 _ ?side1 ?side2 A6.out).mono ?_); (case side1 => repeat (first | exact (Kd.C_below HR0_1.out HB.out) | (with_reducible refine Kd.C_alloc ?_ _) | (with_reducible refine Kd.C_drewN ?_ _) | (with_reducible refine Kd.C_drew ?_))); (case side2 => exact HC0_1.out); rintro e w21 ⟨rfl, hb⟩; refine ⟨_, rfl, ?_⟩; refine zA2 (blk_below (g := gb364) (o := .cells #[.int .i64 a0_0, .slice A0_1 l0_1.length c0_1] 26 (0, 0)) (zB BK364.out) hb) (below_step (zH1 HB.out GE364.out) hb) ?_; clear BK364 HB; intro BK364 HB; (try clear hb); (try clear hb2); (try clear hk); (try clear hi)) | ((with_reducible refine gate_callee (f := 52) rfl ?_); refine goesL_ (some 19) rfl rfl Try.func52 (by kernel_rfl) rfl #[.int .i64 a1, .int .i64 0, .int .i64 (wrap64 ((wrap64 (2 ^ (ji5).toNat)) - 1))] rfl (zM1 hji5) ?_; (with_reducible refine (impl_within.calls a1 0 (wrap64 ((wrap64 (2 ^ (ji5).toNat)) - 1)) false _ A7.out).mono ?_); rintro e w' ⟨rfl, ⟨nd, rfl⟩⟩; refine ⟨_, rfl, ?_⟩) | ((with_reducible refine gate_dst (N := 26) rfl ?_); refine Kd.R_lit k57 _ 57 ?hg (N := 26) ?hd (xs := ([(⟨t365, 1⟩ : S57), (⟨false, 2⟩ : S57)] : List (S57))) (inner := [.bool t365, .int .i64 1, .bool false, .int .i64 2]) (ok := fun _ => True) (okp := fun _ => True) ?hr ?hp (fun _ hk => hk) trivial (Below.refl _ _) (Nat.le_refl _) (by simp) ?_; (case hd => rfl); (case hg => rfl); (case hr => first | (go_simp; done) | (go_simp; rfl)); (case hp => exact (Reps.c2 (show Kd.M k57 _ _ _ (⟨t365, 1⟩ : S57) [.bool t365, .int .i64 1] from (k57_mkM _ _ _ (⟨t365, 1⟩ : S57) )) (Reps.c2 (show Kd.M k57 _ _ _ (⟨false, 2⟩ : S57) [.bool false, .int .i64 2] from (k57_mkM _ _ _ (⟨false, 2⟩ : S57) )) (Reps.none _ _)))); intro v373 w22 ho23 hb hg_ hnew_; clear hg_ hnew_; (first | rw [← Ny372.out] at ho23 | (simp only [Int.reduceToNat] at ho23; rw [← Ny372.out] at ho23)); refine zA3 (Kd.R_lower ho23 (below_size (zH1 HB.out GE364.out))) (blk_below (g := gb364) (o := .cells #[.int .i64 a0_0, .slice A0_1 l0_1.length c0_1] 26 (0, 0)) (zB BK364.out) hb) (below_step (zH1 HB.out GE364.out) hb) ?_; clear BK364 HB; intro HO374 BK364 HB; clear hb ho23; obtain ⟨Ao24, co24, eo24⟩ := Kd.R_slice HO374.out; subst eo24) | ((with_reducible refine gate_callee (f := 32) rfl ?_); refine goesL_ (some 27) rfl rfl Try.func32 (by kernel_rfl) rfl #[.slice Ao24 y372.length co24] rfl zM ?_; (with_reducible refine (impl_first.calls k _ _ y372 t375 _ ?side1 ?side2 A18.out).mono ?_); (case side1 => repeat (first | exact (Kd.R_reads' HO374.out).2.2 | (with_reducible refine Kd.C_alloc ?_ _) | (with_reducible refine Kd.C_drewN ?_ _) | (with_reducible refine Kd.C_drew ?_))); (case side2 => exact (Kd.R_reads' HO374.out).2.1); rintro e w25 ⟨rfl, hb⟩; refine ⟨_, rfl, ?_⟩; refine zA3 (Kd.R_below (zR HO374.out) hb) (blk_below (g := gb364) (o := .cells #[.int .i64 a0_0, .slice A0_1 l0_1.length c0_1] 26 (0, 0)) (zB BK364.out) hb) (below_step (zH1 HB.out GE364.out) hb) ?_; clear HO374 BK364 HB; intro HO374 BK364 HB; (try clear hb); (try clear hb2); (try clear hk); (try clear hi)))
    go_ret
    exact ⟨by first | rfl | (simp [errW_none, errW_some] <;> rfl) | (simp only [← hji4, ← hji5]; first | rfl | (simp [errW_none, errW_some] <;> rfl)) | (simp [*, errW_none, errW_some] <;> rfl), zH1 HB.out GE364.out⟩

/-! ### bits_OnesCount64: function 60 -/
def bits_OnesCount64.f (a0 : Int) : Option (Int) := some (Go.bits .and .i64 (wrap64 (IntKind.u64.wrap ((IntKind.u64.wrap ((IntKind.u64.wrap ((Go.bits .and .u64 (IntKind.u64.wrap (((IntKind.u64.wrap ((Go.bits .and .u64 ((IntKind.u64.wrap ((Go.bits .and .u64 (a0 / 2) 6148914691236517205) + (Go.bits .and .u64 a0 6148914691236517205))) / 4) 3689348814741910323) + (Go.bits .and .u64 (IntKind.u64.wrap ((Go.bits .and .u64 (a0 / 2) 6148914691236517205) + (Go.bits .and .u64 a0 6148914691236517205))) 3689348814741910323))) / 16) + (IntKind.u64.wrap ((Go.bits .and .u64 ((IntKind.u64.wrap ((Go.bits .and .u64 (a0 / 2) 6148914691236517205) + (Go.bits .and .u64 a0 6148914691236517205))) / 4) 3689348814741910323) + (Go.bits .and .u64 (IntKind.u64.wrap ((Go.bits .and .u64 (a0 / 2) 6148914691236517205) + (Go.bits .and .u64 a0 6148914691236517205))) 3689348814741910323))))) 1085102592571150095) + ((Go.bits .and .u64 (IntKind.u64.wrap (((IntKind.u64.wrap ((Go.bits .and .u64 ((IntKind.u64.wrap ((Go.bits .and .u64 (a0 / 2) 6148914691236517205) + (Go.bits .and .u64 a0 6148914691236517205))) / 4) 3689348814741910323) + (Go.bits .and .u64 (IntKind.u64.wrap ((Go.bits .and .u64 (a0 / 2) 6148914691236517205) + (Go.bits .and .u64 a0 6148914691236517205))) 3689348814741910323))) / 16) + (IntKind.u64.wrap ((Go.bits .and .u64 ((IntKind.u64.wrap ((Go.bits .and .u64 (a0 / 2) 6148914691236517205) + (Go.bits .and .u64 a0 6148914691236517205))) / 4) 3689348814741910323) + (Go.bits .and .u64 (IntKind.u64.wrap ((Go.bits .and .u64 (a0 / 2) 6148914691236517205) + (Go.bits .and .u64 a0 6148914691236517205))) 3689348814741910323))))) 1085102592571150095) / 256))) + ((IntKind.u64.wrap ((Go.bits .and .u64 (IntKind.u64.wrap (((IntKind.u64.wrap ((Go.bits .and .u64 ((IntKind.u64.wrap ((Go.bits .and .u64 (a0 / 2) 6148914691236517205) + (Go.bits .and .u64 a0 6148914691236517205))) / 4) 3689348814741910323) + (Go.bits .and .u64 (IntKind.u64.wrap ((Go.bits .and .u64 (a0 / 2) 6148914691236517205) + (Go.bits .and .u64 a0 6148914691236517205))) 3689348814741910323))) / 16) + (IntKind.u64.wrap ((Go.bits .and .u64 ((IntKind.u64.wrap ((Go.bits .and .u64 (a0 / 2) 6148914691236517205) + (Go.bits .and .u64 a0 6148914691236517205))) / 4) 3689348814741910323) + (Go.bits .and .u64 (IntKind.u64.wrap ((Go.bits .and .u64 (a0 / 2) 6148914691236517205) + (Go.bits .and .u64 a0 6148914691236517205))) 3689348814741910323))))) 1085102592571150095) + ((Go.bits .and .u64 (IntKind.u64.wrap (((IntKind.u64.wrap ((Go.bits .and .u64 ((IntKind.u64.wrap ((Go.bits .and .u64 (a0 / 2) 6148914691236517205) + (Go.bits .and .u64 a0 6148914691236517205))) / 4) 3689348814741910323) + (Go.bits .and .u64 (IntKind.u64.wrap ((Go.bits .and .u64 (a0 / 2) 6148914691236517205) + (Go.bits .and .u64 a0 6148914691236517205))) 3689348814741910323))) / 16) + (IntKind.u64.wrap ((Go.bits .and .u64 ((IntKind.u64.wrap ((Go.bits .and .u64 (a0 / 2) 6148914691236517205) + (Go.bits .and .u64 a0 6148914691236517205))) / 4) 3689348814741910323) + (Go.bits .and .u64 (IntKind.u64.wrap ((Go.bits .and .u64 (a0 / 2) 6148914691236517205) + (Go.bits .and .u64 a0 6148914691236517205))) 3689348814741910323))))) 1085102592571150095) / 256))) / 65536))) + ((IntKind.u64.wrap ((IntKind.u64.wrap ((Go.bits .and .u64 (IntKind.u64.wrap (((IntKind.u64.wrap ((Go.bits .and .u64 ((IntKind.u64.wrap ((Go.bits .and .u64 (a0 / 2) 6148914691236517205) + (Go.bits .and .u64 a0 6148914691236517205))) / 4) 3689348814741910323) + (Go.bits .and .u64 (IntKind.u64.wrap ((Go.bits .and .u64 (a0 / 2) 6148914691236517205) + (Go.bits .and .u64 a0 6148914691236517205))) 3689348814741910323))) / 16) + (IntKind.u64.wrap ((Go.bits .and .u64 ((IntKind.u64.wrap ((Go.bits .and .u64 (a0 / 2) 6148914691236517205) + (Go.bits .and .u64 a0 6148914691236517205))) / 4) 3689348814741910323) + (Go.bits .and .u64 (IntKind.u64.wrap ((Go.bits .and .u64 (a0 / 2) 6148914691236517205) + (Go.bits .and .u64 a0 6148914691236517205))) 3689348814741910323))))) 1085102592571150095) + ((Go.bits .and .u64 (IntKind.u64.wrap (((IntKind.u64.wrap ((Go.bits .and .u64 ((IntKind.u64.wrap ((Go.bits .and .u64 (a0 / 2) 6148914691236517205) + (Go.bits .and .u64 a0 6148914691236517205))) / 4) 3689348814741910323) + (Go.bits .and .u64 (IntKind.u64.wrap ((Go.bits .and .u64 (a0 / 2) 6148914691236517205) + (Go.bits .and .u64 a0 6148914691236517205))) 3689348814741910323))) / 16) + (IntKind.u64.wrap ((Go.bits .and .u64 ((IntKind.u64.wrap ((Go.bits .and .u64 (a0 / 2) 6148914691236517205) + (Go.bits .and .u64 a0 6148914691236517205))) / 4) 3689348814741910323) + (Go.bits .and .u64 (IntKind.u64.wrap ((Go.bits .and .u64 (a0 / 2) 6148914691236517205) + (Go.bits .and .u64 a0 6148914691236517205))) 3689348814741910323))))) 1085102592571150095) / 256))) + ((IntKind.u64.wrap ((Go.bits .and .u64 (IntKind.u64.wrap (((IntKind.u64.wrap ((Go.bits .and .u64 ((IntKind.u64.wrap ((Go.bits .and .u64 (a0 / 2) 6148914691236517205) + (Go.bits .and .u64 a0 6148914691236517205))) / 4) 3689348814741910323) + (Go.bits .and .u64 (IntKind.u64.wrap ((Go.bits .and .u64 (a0 / 2) 6148914691236517205) + (Go.bits .and .u64 a0 6148914691236517205))) 3689348814741910323))) / 16) + (IntKind.u64.wrap ((Go.bits .and .u64 ((IntKind.u64.wrap ((Go.bits .and .u64 (a0 / 2) 6148914691236517205) + (Go.bits .and .u64 a0 6148914691236517205))) / 4) 3689348814741910323) + (Go.bits .and .u64 (IntKind.u64.wrap ((Go.bits .and .u64 (a0 / 2) 6148914691236517205) + (Go.bits .and .u64 a0 6148914691236517205))) 3689348814741910323))))) 1085102592571150095) + ((Go.bits .and .u64 (IntKind.u64.wrap (((IntKind.u64.wrap ((Go.bits .and .u64 ((IntKind.u64.wrap ((Go.bits .and .u64 (a0 / 2) 6148914691236517205) + (Go.bits .and .u64 a0 6148914691236517205))) / 4) 3689348814741910323) + (Go.bits .and .u64 (IntKind.u64.wrap ((Go.bits .and .u64 (a0 / 2) 6148914691236517205) + (Go.bits .and .u64 a0 6148914691236517205))) 3689348814741910323))) / 16) + (IntKind.u64.wrap ((Go.bits .and .u64 ((IntKind.u64.wrap ((Go.bits .and .u64 (a0 / 2) 6148914691236517205) + (Go.bits .and .u64 a0 6148914691236517205))) / 4) 3689348814741910323) + (Go.bits .and .u64 (IntKind.u64.wrap ((Go.bits .and .u64 (a0 / 2) 6148914691236517205) + (Go.bits .and .u64 a0 6148914691236517205))) 3689348814741910323))))) 1085102592571150095) / 256))) / 65536))) / 4294967296)))) 127)
set_option maxHeartbeats 8000000 in
set_option maxRecDepth 100000 in
theorem bits_OnesCount64.calls (a0 : Int) (r : Int) (w : World) (h : bits_OnesCount64.f a0 = some r) :
    Calls Try.prog 60 #[.int .u64 a0] w fun e w' => e = .returned (.int .i64 r) ∧ Drawn0 w w' := by
  have H : (some (Go.bits .and .i64 (wrap64 (IntKind.u64.wrap ((IntKind.u64.wrap ((IntKind.u64.wrap ((Go.bits .and .u64 (IntKind.u64.wrap (((IntKind.u64.wrap ((Go.bits .and .u64 ((IntKind.u64.wrap ((Go.bits .and .u64 (a0 / 2) 6148914691236517205) + (Go.bits .and .u64 a0 6148914691236517205))) / 4) 3689348814741910323) + (Go.bits .and .u64 (IntKind.u64.wrap ((Go.bits .and .u64 (a0 / 2) 6148914691236517205) + (Go.bits .and .u64 a0 6148914691236517205))) 3689348814741910323))) / 16) + (IntKind.u64.wrap ((Go.bits .and .u64 ((IntKind.u64.wrap ((Go.bits .and .u64 (a0 / 2) 6148914691236517205) + (Go.bits .and .u64 a0 6148914691236517205))) / 4) 3689348814741910323) + (Go.bits .and .u64 (IntKind.u64.wrap ((Go.bits .and .u64 (a0 / 2) 6148914691236517205) + (Go.bits .and .u64 a0 6148914691236517205))) 3689348814741910323))))) 1085102592571150095) + ((Go.bits .and .u64 (IntKind.u64.wrap (((IntKind.u64.wrap ((Go.bits .and .u64 ((IntKind.u64.wrap ((Go.bits .and .u64 (a0 / 2) 6148914691236517205) + (Go.bits .and .u64 a0 6148914691236517205))) / 4) 3689348814741910323) + (Go.bits .and .u64 (IntKind.u64.wrap ((Go.bits .and .u64 (a0 / 2) 6148914691236517205) + (Go.bits .and .u64 a0 6148914691236517205))) 3689348814741910323))) / 16) + (IntKind.u64.wrap ((Go.bits .and .u64 ((IntKind.u64.wrap ((Go.bits .and .u64 (a0 / 2) 6148914691236517205) + (Go.bits .and .u64 a0 6148914691236517205))) / 4) 3689348814741910323) + (Go.bits .and .u64 (IntKind.u64.wrap ((Go.bits .and .u64 (a0 / 2) 6148914691236517205) + (Go.bits .and .u64 a0 6148914691236517205))) 3689348814741910323))))) 1085102592571150095) / 256))) + ((IntKind.u64.wrap ((Go.bits .and .u64 (IntKind.u64.wrap (((IntKind.u64.wrap ((Go.bits .and .u64 ((IntKind.u64.wrap ((Go.bits .and .u64 (a0 / 2) 6148914691236517205) + (Go.bits .and .u64 a0 6148914691236517205))) / 4) 3689348814741910323) + (Go.bits .and .u64 (IntKind.u64.wrap ((Go.bits .and .u64 (a0 / 2) 6148914691236517205) + (Go.bits .and .u64 a0 6148914691236517205))) 3689348814741910323))) / 16) + (IntKind.u64.wrap ((Go.bits .and .u64 ((IntKind.u64.wrap ((Go.bits .and .u64 (a0 / 2) 6148914691236517205) + (Go.bits .and .u64 a0 6148914691236517205))) / 4) 3689348814741910323) + (Go.bits .and .u64 (IntKind.u64.wrap ((Go.bits .and .u64 (a0 / 2) 6148914691236517205) + (Go.bits .and .u64 a0 6148914691236517205))) 3689348814741910323))))) 1085102592571150095) + ((Go.bits .and .u64 (IntKind.u64.wrap (((IntKind.u64.wrap ((Go.bits .and .u64 ((IntKind.u64.wrap ((Go.bits .and .u64 (a0 / 2) 6148914691236517205) + (Go.bits .and .u64 a0 6148914691236517205))) / 4) 3689348814741910323) + (Go.bits .and .u64 (IntKind.u64.wrap ((Go.bits .and .u64 (a0 / 2) 6148914691236517205) + (Go.bits .and .u64 a0 6148914691236517205))) 3689348814741910323))) / 16) + (IntKind.u64.wrap ((Go.bits .and .u64 ((IntKind.u64.wrap ((Go.bits .and .u64 (a0 / 2) 6148914691236517205) + (Go.bits .and .u64 a0 6148914691236517205))) / 4) 3689348814741910323) + (Go.bits .and .u64 (IntKind.u64.wrap ((Go.bits .and .u64 (a0 / 2) 6148914691236517205) + (Go.bits .and .u64 a0 6148914691236517205))) 3689348814741910323))))) 1085102592571150095) / 256))) / 65536))) + ((IntKind.u64.wrap ((IntKind.u64.wrap ((Go.bits .and .u64 (IntKind.u64.wrap (((IntKind.u64.wrap ((Go.bits .and .u64 ((IntKind.u64.wrap ((Go.bits .and .u64 (a0 / 2) 6148914691236517205) + (Go.bits .and .u64 a0 6148914691236517205))) / 4) 3689348814741910323) + (Go.bits .and .u64 (IntKind.u64.wrap ((Go.bits .and .u64 (a0 / 2) 6148914691236517205) + (Go.bits .and .u64 a0 6148914691236517205))) 3689348814741910323))) / 16) + (IntKind.u64.wrap ((Go.bits .and .u64 ((IntKind.u64.wrap ((Go.bits .and .u64 (a0 / 2) 6148914691236517205) + (Go.bits .and .u64 a0 6148914691236517205))) / 4) 3689348814741910323) + (Go.bits .and .u64 (IntKind.u64.wrap ((Go.bits .and .u64 (a0 / 2) 6148914691236517205) + (Go.bits .and .u64 a0 6148914691236517205))) 3689348814741910323))))) 1085102592571150095) + ((Go.bits .and .u64 (IntKind.u64.wrap (((IntKind.u64.wrap ((Go.bits .and .u64 ((IntKind.u64.wrap ((Go.bits .and .u64 (a0 / 2) 6148914691236517205) + (Go.bits .and .u64 a0 6148914691236517205))) / 4) 3689348814741910323) + (Go.bits .and .u64 (IntKind.u64.wrap ((Go.bits .and .u64 (a0 / 2) 6148914691236517205) + (Go.bits .and .u64 a0 6148914691236517205))) 3689348814741910323))) / 16) + (IntKind.u64.wrap ((Go.bits .and .u64 ((IntKind.u64.wrap ((Go.bits .and .u64 (a0 / 2) 6148914691236517205) + (Go.bits .and .u64 a0 6148914691236517205))) / 4) 3689348814741910323) + (Go.bits .and .u64 (IntKind.u64.wrap ((Go.bits .and .u64 (a0 / 2) 6148914691236517205) + (Go.bits .and .u64 a0 6148914691236517205))) 3689348814741910323))))) 1085102592571150095) / 256))) + ((IntKind.u64.wrap ((Go.bits .and .u64 (IntKind.u64.wrap (((IntKind.u64.wrap ((Go.bits .and .u64 ((IntKind.u64.wrap ((Go.bits .and .u64 (a0 / 2) 6148914691236517205) + (Go.bits .and .u64 a0 6148914691236517205))) / 4) 3689348814741910323) + (Go.bits .and .u64 (IntKind.u64.wrap ((Go.bits .and .u64 (a0 / 2) 6148914691236517205) + (Go.bits .and .u64 a0 6148914691236517205))) 3689348814741910323))) / 16) + (IntKind.u64.wrap ((Go.bits .and .u64 ((IntKind.u64.wrap ((Go.bits .and .u64 (a0 / 2) 6148914691236517205) + (Go.bits .and .u64 a0 6148914691236517205))) / 4) 3689348814741910323) + (Go.bits .and .u64 (IntKind.u64.wrap ((Go.bits .and .u64 (a0 / 2) 6148914691236517205) + (Go.bits .and .u64 a0 6148914691236517205))) 3689348814741910323))))) 1085102592571150095) + ((Go.bits .and .u64 (IntKind.u64.wrap (((IntKind.u64.wrap ((Go.bits .and .u64 ((IntKind.u64.wrap ((Go.bits .and .u64 (a0 / 2) 6148914691236517205) + (Go.bits .and .u64 a0 6148914691236517205))) / 4) 3689348814741910323) + (Go.bits .and .u64 (IntKind.u64.wrap ((Go.bits .and .u64 (a0 / 2) 6148914691236517205) + (Go.bits .and .u64 a0 6148914691236517205))) 3689348814741910323))) / 16) + (IntKind.u64.wrap ((Go.bits .and .u64 ((IntKind.u64.wrap ((Go.bits .and .u64 (a0 / 2) 6148914691236517205) + (Go.bits .and .u64 a0 6148914691236517205))) / 4) 3689348814741910323) + (Go.bits .and .u64 (IntKind.u64.wrap ((Go.bits .and .u64 (a0 / 2) 6148914691236517205) + (Go.bits .and .u64 a0 6148914691236517205))) 3689348814741910323))))) 1085102592571150095) / 256))) / 65536))) / 4294967296)))) 127)) = some r := h
  clear h
  obtain rfl := Option.some.inj H
  go_enter Try.func60, Try.ntmps60
  go_wp2
  go_ret
  exact ⟨zF, zD⟩

/-! ### impl_many: function 47 -/
def impl_many.f (a0 : Int) : Option (Int) := (bits_OnesCount64.f (IntKind.u64.wrap (a0))).bind fun t376 => (some t376)
set_option maxHeartbeats 8000000 in
set_option maxRecDepth 100000 in
theorem impl_many.calls (a0 : Int) (r : Int) (w : World) (h : impl_many.f a0 = some r) :
    Calls Try.prog 47 #[.int .i64 a0] w fun e w' => e = .returned (.int .i64 r) ∧ Drawn0 w w' := by
  have H : ((bits_OnesCount64.f (IntKind.u64.wrap (a0))).bind fun t376 => (some t376)) = some r := h
  clear h
  obtain ⟨t376, A2, H⟩ := zb H
  obtain rfl := Option.some.inj H
  go_enter Try.func47, Try.ntmps47
  go_wp2_with (first | ((with_reducible refine gate_callee (f := 60) rfl ?_); refine goesL_ (some 5) rfl rfl Try.func60 (by kernel_rfl) rfl #[.int .u64 (IntKind.u64.wrap (a0))] rfl zM ?_; (with_reducible refine (bits_OnesCount64.calls (IntKind.u64.wrap (a0)) t376 _ A2.out).mono ?_); rintro e w' ⟨rfl, ⟨nd, rfl⟩⟩; refine ⟨_, rfl, ?_⟩))
  go_ret
  exact ⟨zF, zD⟩

/-! ### impl_isState: function 29 -/
def impl_isState.f (a0 : Int) (a1 : Int) : Option (Bool) := (impl_many.f a0).bind fun t377 => ((impl_many.f a1).bind fun t378 => (if (Go.bits .and .i64 a0 a1) = 0 then (if (wrap64 (t377 - t378)) = 0 then (some true) else (some ((wrap64 (t377 - t378)) == 1))) else (some false)))
set_option maxHeartbeats 8000000 in
set_option maxRecDepth 100000 in
theorem impl_isState.calls (a0 : Int) (a1 : Int) (r : Bool) (w : World) (h : impl_isState.f a0 a1 = some r) :
    Calls Try.prog 29 #[.int .i64 a0, .int .i64 a1] w fun e w' => e = .returned (.bool r) ∧ Drawn0 w w' := by
  have H : ((impl_many.f a0).bind fun t377 => ((impl_many.f a1).bind fun t378 => (if (Go.bits .and .i64 a0 a1) = 0 then (if (wrap64 (t377 - t378)) = 0 then (some true) else (some ((wrap64 (t377 - t378)) == 1))) else (some false)))) = some r := h
  clear h
  obtain ⟨t377, A3, H⟩ := zb H
  obtain ⟨t378, A4, H⟩ := zb H
  by_cases c5 : (Go.bits .and .i64 a0 a1) = 0
  · rw [if_pos c5] at H
    have c5b0 := zq1 c5
    have c5b1 := zq2 c5
    clear c5
    by_cases c6 : (wrap64 (t377 - t378)) = 0
    · rw [if_pos c6] at H
      have c6b0 := zq1 c6
      have c6b1 := zq2 c6
      clear c6
      obtain rfl := Option.some.inj H
      go_enter Try.func29, Try.ntmps29
      go_wp2_with (first | ((with_reducible refine gate_callee (f := 47) rfl ?_); refine goesL_ (some 7) rfl rfl Try.func47 (by kernel_rfl) rfl #[.int .i64 a0] rfl zM ?_; (with_reducible refine (impl_many.calls a0 t377 _ A3.out).mono ?_); rintro e w' ⟨rfl, ⟨nd, rfl⟩⟩; refine ⟨_, rfl, ?_⟩) | ((with_reducible refine gate_callee (f := 47) rfl ?_); refine goesL_ (some 9) rfl rfl Try.func47 (by kernel_rfl) rfl #[.int .i64 a1] rfl zM ?_; (with_reducible refine (impl_many.calls a1 t378 _ A4.out).mono ?_); rintro e w' ⟨rfl, ⟨nd, rfl⟩⟩; refine ⟨_, rfl, ?_⟩))
      go_ret
      exact ⟨zF, zD⟩
    · rw [if_neg c6] at H
      have c6b0 := zq3 c6
      have c6b1 := zq4 c6
      obtain rfl := Option.some.inj H
      go_enter Try.func29, Try.ntmps29
      go_wp2_with (first | ((with_reducible refine gate_callee (f := 47) rfl ?_); refine goesL_ (some 7) rfl rfl Try.func47 (by kernel_rfl) rfl #[.int .i64 a0] rfl zM ?_; (with_reducible refine (impl_many.calls a0 t377 _ A3.out).mono ?_); rintro e w' ⟨rfl, ⟨nd, rfl⟩⟩; refine ⟨_, rfl, ?_⟩) | ((with_reducible refine gate_callee (f := 47) rfl ?_); refine goesL_ (some 9) rfl rfl Try.func47 (by kernel_rfl) rfl #[.int .i64 a1] rfl zM ?_; (with_reducible refine (impl_many.calls a1 t378 _ A4.out).mono ?_); rintro e w' ⟨rfl, ⟨nd, rfl⟩⟩; refine ⟨_, rfl, ?_⟩))
      go_ret
      exact ⟨zF, zD⟩
  · rw [if_neg c5] at H
    have c5b0 := zq3 c5
    have c5b1 := zq4 c5
    obtain rfl := Option.some.inj H
    go_enter Try.func29, Try.ntmps29
    go_wp2_with (first | ((with_reducible refine gate_callee (f := 47) rfl ?_); refine goesL_ (some 7) rfl rfl Try.func47 (by kernel_rfl) rfl #[.int .i64 a0] rfl zM ?_; (with_reducible refine (impl_many.calls a0 t377 _ A3.out).mono ?_); rintro e w' ⟨rfl, ⟨nd, rfl⟩⟩; refine ⟨_, rfl, ?_⟩) | ((with_reducible refine gate_callee (f := 47) rfl ?_); refine goesL_ (some 9) rfl rfl Try.func47 (by kernel_rfl) rfl #[.int .i64 a1] rfl zM ?_; (with_reducible refine (impl_many.calls a1 t378 _ A4.out).mono ?_); rintro e w' ⟨rfl, ⟨nd, rfl⟩⟩; refine ⟨_, rfl, ?_⟩))
    go_ret
    exact ⟨zF, zD⟩

/-! ### impl_stateCode: function 38 -/
def impl_stateCode.f (k : Nat) (a0_0 : Int) (l0_1 : List Int) (a1 : Int) (a2 : Int) : Option (Int) := (impl_setsCode.f k a0_0 l0_1 a1 a2).bind fun t380 => (if t380 = 0 then ((impl_isState.f a1 a2).bind fun t381 => ((impl_first.f k (([(⟨t381, 5⟩ : S57)] : List (S57)))).bind fun t385 => (some t385))) else (some t380))
theorem impl_stateCode.mono : ∀ a0 a1 a2 a3 k, LeO (impl_stateCode.f k a0 a1 a2 a3) (impl_stateCode.f (k + 1) a0 a1 a2 a3) := by
  intro a0 a1 a2 a3 k
  unfold impl_stateCode.f
  repeat' first
      | (with_reducible exact impl_first.mono _ _)
      | (with_reducible exact impl_setsCode.mono _ _ _ _ _)
      | (with_reducible exact LeO.refl _)
      | (with_reducible exact LeO.none _)
      | (with_reducible refine LeO.ite ?_ ?_)
      | (with_reducible refine LeO.bind ?_ (fun _ => ?_))
      | exact impl_first.mono _ _
      | exact impl_setsCode.mono _ _ _ _ _
      | exact LeO.none _
      | refine LeO.ite ?_ ?_
      | refine LeO.bind ?_ (fun _ => ?_)
set_option maxHeartbeats 8000000 in
set_option maxRecDepth 100000 in
theorem impl_stateCode.calls (k : Nat) (a0_0 : Int) (A0_1 : Option Addr) (c0_1 : Nat) (l0_1 : List Int) (a1 : Int) (a2 : Int) (r : Int) (w : World) (hr0_1 : Kd.C (Kd.int .i64) w A0_1 l0_1.length l0_1) (hc0_1 : l0_1.length ≤ c0_1) (h : impl_stateCode.f k a0_0 l0_1 a1 a2 = some r) :
    Calls Try.prog 38 #[.agg #[.int .i64 a0_0, .slice A0_1 l0_1.length c0_1], .int .i64 a1, .int .i64 a2] w fun e w' => e = .returned (.int .i64 r) ∧ Below w.heap.size w w' := by
  have hu26 := Try.underlying26
  have hu57 := Try.underlying57
  have HR0_1 := Aside0.mk hr0_1
  have HC0_1 := Aside0.mk hc0_1
  clear hr0_1 hc0_1
  have HB := Aside0.mk (Below.refl w.heap.size w)
  have H : ((impl_setsCode.f k a0_0 l0_1 a1 a2).bind fun t380 => (if t380 = 0 then ((impl_isState.f a1 a2).bind fun t381 => ((impl_first.f k (([(⟨t381, 5⟩ : S57)] : List (S57)))).bind fun t385 => (some t385))) else (some t380))) = some r := h
  clear h
  obtain ⟨t380, A4, H⟩ := zb H
  by_cases c5 : t380 = 0
  · rw [if_pos c5] at H
    have c5b0 := zq1 c5
    have c5b1 := zq2 c5
    clear c5
    obtain ⟨t381, A6, H⟩ := zb H
    obtain ⟨y382, hy382⟩ : ∃ y_ : List (S57), y_ = (([(⟨t381, 5⟩ : S57)] : List (S57))) := ⟨_, rfl⟩
    replace H : ((impl_first.f k y382).bind fun t385 => (some t385)) = some r := by first | (rw [hy382]; with_reducible exact H) | (have H2_ := (Option.bind_some _ _).symm.trans H; rw [hy382]; with_reducible exact H2_) | (have H2_ := (Option.bind_some _ _).symm.trans H; with_reducible exact H2_) | with_reducible exact H | (rw [hy382]; exact H) | exact H
    have Ny382 := Aside0.mk hy382
    clear hy382
    obtain ⟨t385, A7, H⟩ := zb H
    obtain rfl := Option.some.inj H
    go_enter Try.func38, Try.ntmps38
    go_wp2_with (first | ((with_reducible refine gate_dst (N := 3) rfl ?_); refine zX 3 #[.int .i64 a0_0, .slice A0_1 l0_1.length c0_1] 26 ?_; intro gb379 hg w8 hbox hb; refine zA4 (below_step (zH HB.out) hb) (hbox) ((zS hg (below_size (zH HB.out)) : w.heap.size ≤ gb379)) ((zS hg (below_size (zH HB.out)) : w.heap.size ≤ gb379)) ?_; clear HB; intro HB BK379 GW379 GE379; clear hb hbox hg; obtain ⟨hcz9_0, hcz9_1⟩ := zc2 BK379; obtain ⟨hfz9_0, hfz9_1⟩ := zf2 BK379) | ((with_reducible refine gate_callee (f := 28) rfl ?_); refine goesL_ (some 11) rfl rfl Try.func28 (by kernel_rfl) rfl #[.agg #[.int .i64 a0_0, .slice A0_1 l0_1.length c0_1], .int .i64 a1, .int .i64 a2] rfl zM ?_; (with_reducible refine (impl_setsCode.calls k a0_0 _ _ l0_1 a1 a2 t380 _ ?side1 ?side2 A4.out).mono ?_); (case side1 => repeat (first | exact (Kd.C_below HR0_1.out HB.out) | (with_reducible refine Kd.C_alloc ?_ _) | (with_reducible refine Kd.C_drewN ?_ _) | (with_reducible refine Kd.C_drew ?_))); (case side2 => exact HC0_1.out); rintro e w10 ⟨rfl, hb⟩; refine ⟨_, rfl, ?_⟩; refine zA2 (blk_below (g := gb379) (o := .cells #[.int .i64 a0_0, .slice A0_1 l0_1.length c0_1] 26 (0, 0)) (zB BK379.out) hb) (below_step (zH1 HB.out GE379.out) hb) ?_; clear BK379 HB; intro BK379 HB; (try clear hb); (try clear hb2); (try clear hk); (try clear hi)) | ((with_reducible refine gate_callee (f := 29) rfl ?_); refine goesL_ (some 17) rfl rfl Try.func29 (by kernel_rfl) rfl #[.int .i64 a1, .int .i64 a2] rfl zM ?_; (with_reducible refine (impl_isState.calls a1 a2 t381 _ A6.out).mono ?_); rintro e w' ⟨rfl, ⟨nd, rfl⟩⟩; refine ⟨_, rfl, ?_⟩) | ((with_reducible refine gate_dst (N := 19) rfl ?_); refine Kd.R_lit k57 _ 57 ?hg (N := 19) ?hd (xs := ([(⟨t381, 5⟩ : S57)] : List (S57))) (inner := [.bool t381, .int .i64 5]) (ok := fun _ => True) (okp := fun _ => True) ?hr ?hp (fun _ hk => hk) trivial (Below.refl _ _) (Nat.le_refl _) (by simp) ?_; (case hd => rfl); (case hg => rfl); (case hr => first | (go_simp; done) | (go_simp; rfl)); (case hp => exact (Reps.c2 (show Kd.M k57 _ _ _ (⟨t381, 5⟩ : S57) [.bool t381, .int .i64 5] from (k57_mkM _ _ _ (⟨t381, 5⟩ : S57) )) (Reps.none _ _))); intro v383 w11 ho12 hb hg_ hnew_; clear hg_ hnew_; (first | rw [← Ny382.out] at ho12 | (simp only [Int.reduceToNat] at ho12; rw [← Ny382.out] at ho12)); refine zA3 (Kd.R_lower ho12 (below_size (zH1 HB.out GE379.out))) (blk_below (g := gb379) (o := .cells #[.int .i64 a0_0, .slice A0_1 l0_1.length c0_1] 26 (0, 0)) (zB BK379.out) hb) (below_step (zH1 HB.out GE379.out) hb) ?_; clear BK379 HB; intro HO384 BK379 HB; clear hb ho12; obtain ⟨Ao13, co13, eo13⟩ := Kd.R_slice HO384.out; subst eo13) | ((with_reducible refine gate_callee (f := 32) rfl ?_); refine goesL_ (some 20) rfl rfl Try.func32 (by kernel_rfl) rfl #[.slice Ao13 y382.length co13] rfl zM ?_; (with_reducible refine (impl_first.calls k _ _ y382 t385 _ ?side1 ?side2 A7.out).mono ?_); (case side1 => repeat (first | exact (Kd.R_reads' HO384.out).2.2 | (with_reducible refine Kd.C_alloc ?_ _) | (with_reducible refine Kd.C_drewN ?_ _) | (with_reducible refine Kd.C_drew ?_))); (case side2 => exact (Kd.R_reads' HO384.out).2.1); rintro e w14 ⟨rfl, hb⟩; refine ⟨_, rfl, ?_⟩; refine zA3 (Kd.R_below (zR HO384.out) hb) (blk_below (g := gb379) (o := .cells #[.int .i64 a0_0, .slice A0_1 l0_1.length c0_1] 26 (0, 0)) (zB BK379.out) hb) (below_step (zH1 HB.out GE379.out) hb) ?_; clear HO384 BK379 HB; intro HO384 BK379 HB; (try clear hb); (try clear hb2); (try clear hk); (try clear hi)))
    go_ret
    exact ⟨zE, zH1 HB.out GE379.out⟩
  · rw [if_neg c5] at H
    have c5b0 := zq3 c5
    have c5b1 := zq4 c5
    obtain rfl := Option.some.inj H
    go_enter Try.func38, Try.ntmps38
    go_wp2_with (first | ((with_reducible refine gate_dst (N := 3) rfl ?_); refine zX 3 #[.int .i64 a0_0, .slice A0_1 l0_1.length c0_1] 26 ?_; intro gb379 hg w15 hbox hb; refine zA4 (below_step (zH HB.out) hb) (hbox) ((zS hg (below_size (zH HB.out)) : w.heap.size ≤ gb379)) ((zS hg (below_size (zH HB.out)) : w.heap.size ≤ gb379)) ?_; clear HB; intro HB BK379 GW379 GE379; clear hb hbox hg; obtain ⟨hcz16_0, hcz16_1⟩ := zc2 BK379; obtain ⟨hfz16_0, hfz16_1⟩ := zf2 BK379) | ((with_reducible refine gate_callee (f := 28) rfl ?_); refine goesL_ (some 11) rfl rfl Try.func28 (by kernel_rfl) rfl #[.agg #[.int .i64 a0_0, .slice A0_1 l0_1.length c0_1], .int .i64 a1, .int .i64 a2] rfl zM ?_; (with_reducible refine (impl_setsCode.calls k a0_0 _ _ l0_1 a1 a2 t380 _ ?side1 ?side2 A4.out).mono ?_); (case side1 => repeat (first | exact (Kd.C_below HR0_1.out HB.out) | (with_reducible refine Kd.C_alloc ?_ _) | (with_reducible refine Kd.C_drewN ?_ _) | (with_reducible refine Kd.C_drew ?_))); (case side2 => exact HC0_1.out); rintro e w17 ⟨rfl, hb⟩; refine ⟨_, rfl, ?_⟩; refine zA2 (blk_below (g := gb379) (o := .cells #[.int .i64 a0_0, .slice A0_1 l0_1.length c0_1] 26 (0, 0)) (zB BK379.out) hb) (below_step (zH1 HB.out GE379.out) hb) ?_; clear BK379 HB; intro BK379 HB; (try clear hb); (try clear hb2); (try clear hk); (try clear hi)))
    go_ret
    exact ⟨zE, zH1 HB.out GE379.out⟩

/-! ### impl_raceOf: function 22 -/
def impl_raceOf.f (a0 : Int) (a1 : Int) : Option (Int × Int) := (impl_many.f a0).bind fun t407 => ((impl_many.f a1).bind fun t408 => (if t407 = t408 then (some (a0, a1)) else (some (a1, a0))))
set_option maxHeartbeats 8000000 in
set_option maxRecDepth 100000 in
theorem impl_raceOf.calls (a0 : Int) (a1 : Int) (r1 : Int) (r2 : Int) (w : World) (h : impl_raceOf.f a0 a1 = some (r1, r2)) :
    Calls Try.prog 22 #[.int .i64 a0, .int .i64 a1] w fun e w' => e = .returned (.agg #[.int .i64 r1, .int .i64 r2]) ∧ Below w.heap.size w w' := by
  have hu46 := Try.underlying46
  have HB := Aside0.mk (Below.refl w.heap.size w)
  have H : ((impl_many.f a0).bind fun t407 => ((impl_many.f a1).bind fun t408 => (if t407 = t408 then (some (a0, a1)) else (some (a1, a0))))) = some (r1, r2) := h
  clear h
  obtain ⟨t407, A3, H⟩ := zb H
  obtain ⟨t408, A4, H⟩ := zb H
  by_cases c5 : t407 = t408
  · rw [if_pos c5] at H
    have c5b0 := zq1 c5
    have c5b1 := zq2 c5
    clear c5
    simp only [Option.some.injEq, Prod.mk.injEq] at H
    obtain ⟨rfl, rfl⟩ := H
    go_enter Try.func22, Try.ntmps22
    go_wp2_with (first | ((with_reducible refine gate_dst (N := 4) rfl ?_); refine zX 4 #[.int .i64 0, .int .i64 0] 46 ?_; intro gb406 hg w6 hbox hb; refine zA4 (below_step (zH HB.out) hb) (hbox) ((zS hg (below_size (zH HB.out)) : w.heap.size ≤ gb406)) ((zS hg (below_size (zH HB.out)) : w.heap.size ≤ gb406)) ?_; clear HB; intro HB BK406 GW406 GE406; clear hb hbox hg) | ((with_reducible refine gate_callee (f := 47) rfl ?_); refine goesL_ (some 6) rfl rfl Try.func47 (by kernel_rfl) rfl #[.int .i64 a0] rfl zM ?_; (with_reducible refine (impl_many.calls a0 t407 _ A3.out).mono ?_); rintro e w' ⟨rfl, ⟨nd, rfl⟩⟩; refine ⟨_, rfl, ?_⟩; (try (rw [drewN_self w6]; generalize hq_ : World.drewN w6 _ = w6; have n0_ : Aside0 (w6.heap[gb406]? = some (.cells #[.int .i64 0, .int .i64 0] 46 (0, 0))) := ⟨by rw [← hq_]; exact (zB BK406.out)⟩; have n1_ : Aside0 (Below w.heap.size w w6) := ⟨by rw [← hq_]; exact (zH1 HB.out GE406.out)⟩; clear BK406 HB hq_; have BK406 := n0_; have HB := n1_; clear n0_ n1_))) | ((with_reducible refine gate_callee (f := 47) rfl ?_); refine goesL_ (some 8) rfl rfl Try.func47 (by kernel_rfl) rfl #[.int .i64 a1] rfl zM ?_; (with_reducible refine (impl_many.calls a1 t408 _ A4.out).mono ?_); rintro e w' ⟨rfl, ⟨nd, rfl⟩⟩; refine ⟨_, rfl, ?_⟩; (try (rw [drewN_self w6]; generalize hq_ : World.drewN w6 _ = w6; have n0_ : Aside0 (w6.heap[gb406]? = some (.cells #[.int .i64 0, .int .i64 0] 46 (0, 0))) := ⟨by rw [← hq_]; exact (zB BK406.out)⟩; have n1_ : Aside0 (Below w.heap.size w w6) := ⟨by rw [← hq_]; exact (zH1 HB.out GE406.out)⟩; clear BK406 HB hq_; have BK406 := n0_; have HB := n1_; clear n0_ n1_)); obtain ⟨hcz7_0, hcz7_1⟩ := zc2 BK406; obtain ⟨hfz7_0, hfz7_1⟩ := zf2 BK406))
    refine bodyPost_ret (results_cell_row rfl _ _ gb406 46 #[.int .i64 a0, .int .i64 a1] (0, 0) _ rfl (by (with_reducible repeat (first | refine blk_drewN ?_ _ | refine blk_drew ?_ | refine blk_alloc ?_ _)); refine blk_put (cs := #[.int .i64 a0, .int .i64 0]) ?_ 1 _ rfl; (with_reducible repeat (first | refine blk_drewN ?_ _ | refine blk_drew ?_ | refine blk_alloc ?_ _)); refine blk_put (cs := #[.int .i64 0, .int .i64 0]) ?_ 0 _ rfl; (with_reducible repeat (first | refine blk_drewN ?_ _ | refine blk_drew ?_ | refine blk_alloc ?_ _)); exact BK406.out) Try.underlying46 rfl (by kernel_rfl)) rfl ?_
    exact ⟨zE, zH1 HB.out GE406.out⟩
  · rw [if_neg c5] at H
    have c5b0 := zq3 c5
    have c5b1 := zq4 c5
    simp only [Option.some.injEq, Prod.mk.injEq] at H
    obtain ⟨rfl, rfl⟩ := H
    go_enter Try.func22, Try.ntmps22
    go_wp2_with (first | ((with_reducible refine gate_dst (N := 4) rfl ?_); refine zX 4 #[.int .i64 0, .int .i64 0] 46 ?_; intro gb406 hg w8 hbox hb; refine zA4 (below_step (zH HB.out) hb) (hbox) ((zS hg (below_size (zH HB.out)) : w.heap.size ≤ gb406)) ((zS hg (below_size (zH HB.out)) : w.heap.size ≤ gb406)) ?_; clear HB; intro HB BK406 GW406 GE406; clear hb hbox hg) | ((with_reducible refine gate_callee (f := 47) rfl ?_); refine goesL_ (some 6) rfl rfl Try.func47 (by kernel_rfl) rfl #[.int .i64 a0] rfl zM ?_; (with_reducible refine (impl_many.calls a0 t407 _ A3.out).mono ?_); rintro e w' ⟨rfl, ⟨nd, rfl⟩⟩; refine ⟨_, rfl, ?_⟩; (try (rw [drewN_self w8]; generalize hq_ : World.drewN w8 _ = w8; have n0_ : Aside0 (w8.heap[gb406]? = some (.cells #[.int .i64 0, .int .i64 0] 46 (0, 0))) := ⟨by rw [← hq_]; exact (zB BK406.out)⟩; have n1_ : Aside0 (Below w.heap.size w w8) := ⟨by rw [← hq_]; exact (zH1 HB.out GE406.out)⟩; clear BK406 HB hq_; have BK406 := n0_; have HB := n1_; clear n0_ n1_))) | ((with_reducible refine gate_callee (f := 47) rfl ?_); refine goesL_ (some 8) rfl rfl Try.func47 (by kernel_rfl) rfl #[.int .i64 a1] rfl zM ?_; (with_reducible refine (impl_many.calls a1 t408 _ A4.out).mono ?_); rintro e w' ⟨rfl, ⟨nd, rfl⟩⟩; refine ⟨_, rfl, ?_⟩; (try (rw [drewN_self w8]; generalize hq_ : World.drewN w8 _ = w8; have n0_ : Aside0 (w8.heap[gb406]? = some (.cells #[.int .i64 0, .int .i64 0] 46 (0, 0))) := ⟨by rw [← hq_]; exact (zB BK406.out)⟩; have n1_ : Aside0 (Below w.heap.size w w8) := ⟨by rw [← hq_]; exact (zH1 HB.out GE406.out)⟩; clear BK406 HB hq_; have BK406 := n0_; have HB := n1_; clear n0_ n1_)); obtain ⟨hcz9_0, hcz9_1⟩ := zc2 BK406; obtain ⟨hfz9_0, hfz9_1⟩ := zf2 BK406))
    refine bodyPost_ret (results_cell_row rfl _ _ gb406 46 #[.int .i64 a1, .int .i64 a0] (0, 0) _ rfl (by (with_reducible repeat (first | refine blk_drewN ?_ _ | refine blk_drew ?_ | refine blk_alloc ?_ _)); refine blk_put (cs := #[.int .i64 a1, .int .i64 0]) ?_ 1 _ rfl; (with_reducible repeat (first | refine blk_drewN ?_ _ | refine blk_drew ?_ | refine blk_alloc ?_ _)); refine blk_put (cs := #[.int .i64 0, .int .i64 0]) ?_ 0 _ rfl; (with_reducible repeat (first | refine blk_drewN ?_ _ | refine blk_drew ?_ | refine blk_alloc ?_ _)); exact BK406.out) Try.underlying46 rfl (by kernel_rfl)) rfl ?_
    exact ⟨zE, zH1 HB.out GE406.out⟩

end Go.Proofs.Ytbmkhdeeengbmaa.Q
