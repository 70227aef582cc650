-- Written by a program of this session (wip/tools/px.sh) over the seat's translation; Lean checks it.
import Derived.Test.YtbmkhdeeengbmaaQ0
import Derived.Test.YtbmkhdeeengbmaaSq
import Derived.Test.YtbmkhdeeengbmaaQ1
import Derived.Test.YtbmkhdeeengbmaaQ3
import Derived.Test.YtbmkhdeeengbmaaQ4
import Derived.Test.YtbmkhdeeengbmaaOutNodes
import Derived.Test.YtbmkhdeeengbmaaSpecBehind
import Derived.Test.YtbmkhdeeengbmaaSpecBehind2
import Derived.Test.YtbmkhdeeengbmaaQ6
namespace Go.Proofs.Ytbmkhdeeengbmaa.Q
open Go.RowKit Go.Proofs.YtbmkhdeeengbmaaW.PrintWords Go.Proofs.YtbmkhdeeengbmaaW.PrintLast Go.Proofs.YtbmkhdeeengbmaaW.PrintMore
attribute [local go_sem] max2_int min2_int max_two min_two max_three min_three max_four min_four   -- for this text's walks alone
set_option linter.unusedVariables false
set_option linter.unusedSimpArgs false

/-! ### spec_RaceResult: function 7 -/
def spec_RaceResult.f (k : Nat) (a0_0 : Int) (l0_1 : List Int) (a1 : Int) (a2 : Int) : Option (Int × Int) := (spec_l07Running.f k a0_0 l0_1 a1 a2).bind fun t440 => (if t440 = 0 then ((spec_l07Table.f k a0_0 l0_1).bind fun t441 => ((spec_l07Race.f k a0_0 l0_1 a1 a2 t441).bind fun bt444 => (some (bt444.1, 0)))) else (some (0, t440)))
theorem spec_RaceResult.mono : ∀ a0 a1 a2 a3 k, LeO (spec_RaceResult.f k a0 a1 a2 a3) (spec_RaceResult.f (k + 1) a0 a1 a2 a3) := by
  intro a0 a1 a2 a3 k
  unfold spec_RaceResult.f
  repeat' first
      | (with_reducible exact spec_l07Race.mono _ _ _ _ _ _)
      | (with_reducible exact spec_l07Running.mono _ _ _ _ _)
      | (with_reducible exact spec_l07Table.mono _ _ _)
      | (with_reducible exact LeO.refl _)
      | (with_reducible exact LeO.none _)
      | (with_reducible refine LeO.ite ?_ ?_)
      | (with_reducible refine LeO.bind ?_ (fun _ => ?_))
      | exact spec_l07Race.mono _ _ _ _ _ _
      | exact spec_l07Running.mono _ _ _ _ _
      | exact spec_l07Table.mono _ _ _
      | exact LeO.none _
      | refine LeO.ite ?_ ?_
      | refine LeO.bind ?_ (fun _ => ?_)
def spec_RaceResult.T4 : Bool × List (List Nat × List Nat) := (true, [([], []), ([], []), ([], []), ([], []), ([3], [3]), ([0, 1, 2, 4, 4], [0, 1, 2, 4]), ([5, 5, 0, 1, 2, 3, 4, 5], [5]), ([6, 0, 1, 2, 3, 4, 5, 6], [])])
def spec_RaceResult.B4 : List Nat := [0, 0, 0, 0, 8, 31, 63, 127]
theorem spec_RaceResult.tab4 : rtab .any (opsOf Try.f7 4) = spec_RaceResult.T4 := by kernel_rfl
theorem spec_RaceResult.bits4 : waitsOk spec_RaceResult.T4.2 spec_RaceResult.B4 = true := by kernel_rfl
set_option maxHeartbeats 8000000 in
set_option maxRecDepth 100000 in
theorem spec_RaceResult.calls (k : Nat) (a0_0 : Int) (A0_1 : Option Addr) (c0_1 : Nat) (l0_1 : List Int) (a1 : Int) (a2 : Int) (r1 : Int) (r2 : Int) (w : World) (hr0_1 : Kd.C (Kd.int .i64) w A0_1 l0_1.length l0_1) (hc0_1 : l0_1.length ≤ c0_1) (h : spec_RaceResult.f k a0_0 l0_1 a1 a2 = some (r1, r2)) :
    Calls Try.prog 7 #[.agg #[.int .i64 a0_0, .slice A0_1 l0_1.length c0_1], .int .i64 a1, .int .i64 a2] w fun e w' => e = .returned (.tuple #[.int .i64 r1, .int .i64 r2]) ∧ Below w.heap.size w w' := by
  have hu26 := Try.underlying26
  have HR0_1 := Aside0.mk hr0_1
  have HC0_1 := Aside0.mk hc0_1
  clear hr0_1 hc0_1
  have HB := Aside0.mk (Below.refl w.heap.size w)
  have H : ((spec_l07Running.f k a0_0 l0_1 a1 a2).bind fun t440 => (if t440 = 0 then ((spec_l07Table.f k a0_0 l0_1).bind fun t441 => ((spec_l07Race.f k a0_0 l0_1 a1 a2 t441).bind fun bt444 => (some (bt444.1, 0)))) else (some (0, t440)))) = some (r1, r2) := h
  clear h
  obtain ⟨t440, A4, H⟩ := zb H
  by_cases c5 : t440 = 0
  · rw [if_pos c5] at H
    have c5b0 := zq1 c5
    have c5b1 := zq2 c5
    clear c5
    obtain ⟨t441, A6, H⟩ := zb H
    obtain ⟨⟨t444, t445⟩, A7, H⟩ := zb H; (try dsimp only at H)
    simp only [Option.some.injEq, Prod.mk.injEq] at H
    obtain ⟨rfl, rfl⟩ := H
    go_enter Try.func7, Try.ntmps7
    try go_wp2_with (first | ((with_reducible refine gate_dst (N := 3) rfl ?_); refine zX 3 #[.int .i64 a0_0, .slice A0_1 l0_1.length c0_1] 26 ?_; intro gb439 hg w8 hbox hb; refine zA4 (below_step (zH HB.out) hb) (hbox) ((zS hg (below_size (zH HB.out)) : w.heap.size ≤ gb439)) ((zS hg (below_size (zH HB.out)) : w.heap.size ≤ gb439)) ?_; clear HB; intro HB BK439 GW439 GE439; clear hb hbox hg; obtain ⟨hcz9_0, hcz9_1⟩ := zc2 BK439; obtain ⟨hfz9_0, hfz9_1⟩ := zf2 BK439) | ((with_reducible refine gate_callee (f := 23) rfl ?_); refine goesL_ (some 12) rfl rfl Try.func23 (by kernel_rfl) rfl #[.agg #[.int .i64 a0_0, .slice A0_1 l0_1.length c0_1], .int .i64 a1, .int .i64 a2] rfl zM ?_; (with_reducible refine (spec_l07Running.calls k a0_0 _ _ l0_1 a1 a2 t440 _ ?side1 ?side2 A4.out).mono ?_); (case side1 => repeat (first | exact (Kd.C_below HR0_1.out HB.out) | (with_reducible refine Kd.C_alloc ?_ _) | (with_reducible refine Kd.C_drewN ?_ _) | (with_reducible refine Kd.C_drew ?_))); (case side2 => exact HC0_1.out); rintro e w10 ⟨rfl, hb⟩; refine ⟨_, rfl, ?_⟩; refine zA2 (blk_below (g := gb439) (o := .cells #[.int .i64 a0_0, .slice A0_1 l0_1.length c0_1] 26 (0, 0)) (zB BK439.out) hb) (below_step (zH1 HB.out GE439.out) hb) ?_; clear BK439 HB; intro BK439 HB; (try clear hb); (try clear hb2); (try clear hk); (try clear hi)))
    refine zA2 (blk_drew BK439.out) (below_drew1 HB.out) ?_
    clear BK439 HB
    intro BK439 HB
    refine start_ (n := 8) (S := fun w' => w'.cell? ⟨gb439, 0, none⟩ = some (.int .i64 a0_0) ∧ w'.cell? ⟨gb439, 1, none⟩ = some (.slice A0_1 l0_1.length c0_1)) (ds := []) #[false, false, false, false, false, false, false, false] (by kernel_rfl) rfl rfl ⟨(blk_cell BK439.out 0).trans rfl, (blk_cell BK439.out 1).trans rfl⟩ (fun hHeld => ?_); refine with_tabW spec_RaceResult.tab4 spec_RaceResult.bits4 (fun HT_ HW_ => ?_)
    generalize w10.drew = w11 at BK439 HB hHeld ⊢
    refine zP HT_ 1 (some 17) rfl rfl ?_
    refine zP HT_ 2 (some 18) rfl rfl ?_
    refine zT HT_ HW_ hHeld 0 (some 16) rfl rfl ?_
    refine zT HT_ HW_ hHeld 3 (some 19) rfl rfl ?_
    refine one_ (i := 4) (N := some 20) #[true, true, true, true, true, false, false, false] rfl rfl (one_of HT_.out (by kernel_rfl)) (by decide) (fun K hK => ?_)
    refine goes_ Try.func25 (by kernel_rfl) rfl #[.agg #[.int .i64 a0_0, .slice A0_1 l0_1.length c0_1]] (by rfl) rfl rfl zM ?_
    with_reducible refine (spec_l07Table.calls k a0_0 _ _ l0_1 t441 _ ?side1 ?side2 A6.out).mono ?_
    (case side1 => repeat (first | exact (Kd.C_below HR0_1.out HB.out) | (with_reducible refine Kd.C_alloc ?_ _) | (with_reducible refine Kd.C_drewN ?_ _) | (with_reducible refine Kd.C_drew ?_)))
    (case side2 => exact HC0_1.out)
    rintro e w12 ⟨v442, rfl, ho0, hb⟩
    refine ⟨_, rfl, ?_⟩
    refine zA3 (Kd.R_lower ho0 (below_size (zH1 HB.out GE439.out))) (blk_below (g := gb439) (o := .cells #[.int .i64 a0_0, .slice A0_1 l0_1.length c0_1] 26 (0, 0)) (zB BK439.out) hb) (below_step (zH1 HB.out GE439.out) hb) ?_
    clear BK439 HB
    intro HO443 BK439 HB
    (try clear hb)
    (try clear hb2)
    (try clear hk)
    (try clear hi)
    (try clear ho0)
    obtain ⟨Ao13, co13, eo13⟩ := Kd.R_slice HO443.out
    (first | subst eo13 | (injection eo13 with f1_ f2_ f3_; have f4_ := f1_.symm; have f5_ := f3_.symm; clear f1_ f2_ f3_; subst f4_; subst f5_))
    refine hK.out _ _ ⟨(blk_cell BK439.out 0).trans rfl, (blk_cell BK439.out 1).trans rfl⟩ (fun hHeld => ?_)
    clear hK K
    refine zW (some 20) ?_
    refine one_ (i := 5) (N := some 21) #[true, true, true, true, true, true, false, false] rfl rfl (one_of HT_.out (by kernel_rfl)) (by decide) (fun K hK => ?_)
    refine goes_ Try.func24 (by kernel_rfl) rfl #[.agg #[.int .i64 a0_0, .slice A0_1 l0_1.length c0_1], .int .i64 a1, .int .i64 a2, .slice Ao13 t441.length co13] (by rfl) rfl rfl zM ?_
    with_reducible refine (spec_l07Race.calls k a0_0 _ _ l0_1 a1 a2 (fun k_ => some k_ = (.slice Ao13 t441.length co13 : Value).ownBlock) (.slice Ao13 t441.length co13) t441 t444 t445 w _ ?side1 ?side2 ?side3 ?side4 A7.out).mono ?_
    (case side1 => exact zH1 HB.out GE439.out)
    (case side2 => exact Kd.C_kept_came (Kd.heap_int .i64) HR0_1.out (zH1 HB.out GE439.out) (fun k_ hs_ => (fun e_ => Kd.R_base HO443.out k_ e_.symm) hs_))
    (case side3 => exact HC0_1.out)
    (case side4 => exact Kd.R_tight rfl HO443.out)
    rintro e w14 ⟨rfl, hy0, hb, hkp⟩
    refine ⟨_, rfl, ?_⟩
    refine zA3 (blk_kept (zB BK439.out) hkp (fun hs_ => (fun e_ => (Kd.R_ne HO443.out BK439.out (by decide)) e_) hs_)) (Kd.R_reok rfl hy0 (fun k_ e_ => HO443.out.1 k_ e_)) (hb) ?_
    clear BK439 HO443 HB
    intro BK439 HO443 HB
    (try clear hb)
    (try clear hkp)
    (try clear hy0)
    refine hK.out _ _ ⟨(blk_cell BK439.out 0).trans rfl, (blk_cell BK439.out 1).trans rfl⟩ (fun hHeld => ?_)
    clear hK K
    refine zW (some 21) ?_
    refine zP HT_ 6 (some 6) rfl rfl ?_
    refine zP HT_ 7 (some 7) rfl rfl ?_
    refine done_ (done_of HT_.out (by kernel_rfl)) ?_
    try go_wp2
    go_ret2
    exact ⟨zE, zH1 HB.out GE439.out⟩
  · rw [if_neg c5] at H
    have c5b0 := zq3 c5
    have c5b1 := zq4 c5
    simp only [Option.some.injEq, Prod.mk.injEq] at H
    obtain ⟨rfl, rfl⟩ := H
    go_enter Try.func7, Try.ntmps7
    go_wp2_with (first | ((with_reducible refine gate_dst (N := 3) rfl ?_); refine zX 3 #[.int .i64 a0_0, .slice A0_1 l0_1.length c0_1] 26 ?_; intro gb439 hg w15 hbox hb; refine zA4 (below_step (zH HB.out) hb) (hbox) ((zS hg (below_size (zH HB.out)) : w.heap.size ≤ gb439)) ((zS hg (below_size (zH HB.out)) : w.heap.size ≤ gb439)) ?_; clear HB; intro HB BK439 GW439 GE439; clear hb hbox hg; obtain ⟨hcz16_0, hcz16_1⟩ := zc2 BK439; obtain ⟨hfz16_0, hfz16_1⟩ := zf2 BK439) | ((with_reducible refine gate_callee (f := 23) rfl ?_); refine goesL_ (some 12) rfl rfl Try.func23 (by kernel_rfl) rfl #[.agg #[.int .i64 a0_0, .slice A0_1 l0_1.length c0_1], .int .i64 a1, .int .i64 a2] rfl zM ?_; (with_reducible refine (spec_l07Running.calls k a0_0 _ _ l0_1 a1 a2 t440 _ ?side1 ?side2 A4.out).mono ?_); (case side1 => repeat (first | exact (Kd.C_below HR0_1.out HB.out) | (with_reducible refine Kd.C_alloc ?_ _) | (with_reducible refine Kd.C_drewN ?_ _) | (with_reducible refine Kd.C_drew ?_))); (case side2 => exact HC0_1.out); rintro e w17 ⟨rfl, hb⟩; refine ⟨_, rfl, ?_⟩; refine zA2 (blk_below (g := gb439) (o := .cells #[.int .i64 a0_0, .slice A0_1 l0_1.length c0_1] 26 (0, 0)) (zB BK439.out) hb) (below_step (zH1 HB.out GE439.out) hb) ?_; clear BK439 HB; intro BK439 HB; (try clear hb); (try clear hb2); (try clear hk); (try clear hi)))
    go_ret2
    exact ⟨zE, zH1 HB.out GE439.out⟩

-- NOT PRINTED: function 51 (impl_Board_bestNodes_1)

-- NOT PRINTED: function 26 (impl_Board_bestNodes)

/-! ### spec_l07Best: function 27 -/
def spec_l07Best.l0 : Nat → Int → Int → List Int → Int → List Int → Int → Int → List Int → Option (List Int × List Int)
  | 0, _, _, _, _, _, _, _, _ => none
  | k + 1, x1, x2, x3, x9, x10, x11, x447000, x447001 => if x11 < x447000 then (if 0 ≤ (IntKind.u64.wrap (x11)) then (if (Go.bits .and .i64 (shr .i64 (Go.bits .or .i64 x1 x2) (IntKind.u64.wrap (x11))) 1) = 0 then ((spec_l07Behind.f k x447000 x447001 x1 x2 x11 x3).bind fun bt452 => (if bt452.1 = x9 then (if x10.length < 17592186044416 then (spec_l07Best.l0 k x1 x2 bt452.2 x9 (x10 ++ [x11]) (wrap64 (x11 + 1)) x447000 x447001) else (none)) else (spec_l07Best.l0 k x1 x2 bt452.2 x9 x10 (wrap64 (x11 + 1)) x447000 x447001))) else (spec_l07Best.l0 k x1 x2 x3 x9 x10 (wrap64 (x11 + 1)) x447000 x447001)) else (none)) else (some (x10, x3))
def spec_l07Best.f (k : Nat) (a0_0 : Int) (l0_1 : List Int) (a1 : Int) (a2 : Int) (l3 : List Int) : Option (List Int × List Int) := (spec_l07Race.f k a0_0 l0_1 a1 a2 l3).bind fun bt447 => (spec_l07Best.l0 k a1 a2 bt447.2 bt447.1 (([] : List Int)) 0 a0_0 l0_1)
theorem spec_l07Best.mono_l : ∀ k, (∀ y0 y1 y2 y3 y4 y5 y6 y7, LeO (spec_l07Best.l0 k y0 y1 y2 y3 y4 y5 y6 y7) (spec_l07Best.l0 (k + 1) y0 y1 y2 y3 y4 y5 y6 y7))
  | 0 => fun _ _ _ _ _ _ _ _ r h => by simp [spec_l07Best.l0] at h
  | k + 1 => by
    have ih0 := spec_l07Best.mono_l k
    · intro y0 y1 y2 y3 y4 y5 y6 y7
      unfold spec_l07Best.l0
      repeat' first
      | (with_reducible exact ih0 _ _ _ _ _ _ _ _)
      | (with_reducible exact spec_l07Behind.mono _ _ _ _ _ _ _)
      | (with_reducible exact spec_l07Race.mono _ _ _ _ _ _)
      | (with_reducible exact LeO.refl _)
      | (with_reducible exact LeO.none _)
      | (with_reducible refine LeO.ite ?_ ?_)
      | (with_reducible refine LeO.bind ?_ (fun _ => ?_))
      | exact ih0 _ _ _ _ _ _ _ _
      | exact spec_l07Behind.mono _ _ _ _ _ _ _
      | exact spec_l07Race.mono _ _ _ _ _ _
      | exact LeO.none _
      | refine LeO.ite ?_ ?_
      | refine LeO.bind ?_ (fun _ => ?_)
theorem spec_l07Best.mono : ∀ a0 a1 a2 a3 a4 k, LeO (spec_l07Best.f k a0 a1 a2 a3 a4) (spec_l07Best.f (k + 1) a0 a1 a2 a3 a4) := by
  intro a0 a1 a2 a3 a4 k
  have ih0 := spec_l07Best.mono_l k
  unfold spec_l07Best.f
  repeat' first
      | (with_reducible exact ih0 _ _ _ _ _ _ _ _)
      | (with_reducible exact spec_l07Behind.mono _ _ _ _ _ _ _)
      | (with_reducible exact spec_l07Race.mono _ _ _ _ _ _)
      | (with_reducible exact LeO.refl _)
      | (with_reducible exact LeO.none _)
      | (with_reducible refine LeO.ite ?_ ?_)
      | (with_reducible refine LeO.bind ?_ (fun _ => ?_))
      | exact ih0 _ _ _ _ _ _ _ _
      | exact spec_l07Behind.mono _ _ _ _ _ _ _
      | exact spec_l07Race.mono _ _ _ _ _ _
      | exact LeO.none _
      | refine LeO.ite ?_ ?_
      | refine LeO.bind ?_ (fun _ => ?_)
set_option maxHeartbeats 8000000 in
set_option maxRecDepth 100000 in
theorem spec_l07Best.calls (k : Nat) (a0_0 : Int) (A0_1 : Option Addr) (c0_1 : Nat) (l0_1 : List Int) (a1 : Int) (a2 : Int) (P3_ : Nat → Prop) (u9000_ : Value) (l3 : List Int) (r1 : List Int) (r2 : List Int) (w0 w : World) (hB : Below w0.heap.size w0 w) (hr0_1 : ∀ W_, Kept w W_ (fun k_ => P3_ k_) → Kd.C (Kd.int .i64) W_ A0_1 l0_1.length l0_1) (hc0_1 : l0_1.length ≤ c0_1) (ho3 : Kd.R (Kd.int .i8) 72 w w0.heap.size P3_ u9000_ l3) (h : spec_l07Best.f k a0_0 l0_1 a1 a2 l3 = some (r1, r2)) :
    Calls Try.prog 27 #[.agg #[.int .i64 a0_0, .slice A0_1 l0_1.length c0_1], .int .i64 a1, .int .i64 a2, u9000_] w fun e w' => ∃ v0_ : Value, e = .returned (v0_) ∧ Kd.R (Kd.int .i64) 2 w' w0.heap.size (fun k_ => (P3_ k_ ∨ w.heap.size ≤ k_)) v0_ r1 ∧ Kd.R (Kd.int .i8) 72 w' w0.heap.size (fun k_ => (P3_ k_ ∨ w.heap.size ≤ k_)) u9000_ r2 ∧ Below w0.heap.size w0 w' ∧ Kept w w' (fun k_ => P3_ k_) := by
  have hu26 := Try.underlying26
  have HR0_1 := Aside0.mk hr0_1
  have HC0_1 := Aside0.mk hc0_1
  clear hr0_1 hc0_1
  have HO3 := Aside0.mk (show Kd.R (Kd.int .i8) 72 w w0.heap.size (fun k_ => (P3_ k_ ∨ w.heap.size ≤ k_)) u9000_ l3 from Kd.R_mono ho3 (fun k_ hk => (.inl hk)))
  have HK := Aside0.mk (Kept.refl w (fun k_ => P3_ k_))
  have HW0 := Aside0.mk hB.size
  have HB := Aside0.mk hB
  clear hB
  have H : ((spec_l07Race.f k a0_0 l0_1 a1 a2 l3).bind fun bt447 => (spec_l07Best.l0 k a1 a2 bt447.2 bt447.1 (([] : List Int)) 0 a0_0 l0_1)) = some (r1, r2) := h
  clear h
  obtain ⟨⟨t447, t448⟩, A5, H⟩ := zb H; (try dsimp only at H)
  obtain ⟨y449, hy449⟩ : ∃ y_ : List Int, y_ = (([] : List Int)) := ⟨_, rfl⟩
  replace H : (spec_l07Best.l0 k a1 a2 t448 t447 y449 0 a0_0 l0_1) = some (r1, r2) := by first | (rw [hy449]; with_reducible exact H) | (have H2_ := (Option.bind_some _ _).symm.trans H; rw [hy449]; with_reducible exact H2_) | (have H2_ := (Option.bind_some _ _).symm.trans H; with_reducible exact H2_) | with_reducible exact H | (rw [hy449]; exact H) | exact H
  have Ny449 := Aside0.mk hy449
  clear hy449
  have H' := Aside0.mk H
  clear H
  go_enter Try.func27, Try.ntmps27
  go_wp2_with (first | ((with_reducible refine gate_dst (N := 4) rfl ?_); refine zX 4 #[.int .i64 a0_0, .slice A0_1 l0_1.length c0_1] 26 ?_; intro gb446 hg w6 hbox hb; refine zA6 (Kd.R_below (zR HO3.out) hb) (Kept.below (S := (fun k_ => P3_ k_)) (zK HK.out) hb) (below_step (zH HB.out) hb) (hbox) ((by rw [hg]; exact (by first | exact HK.out.1 | exact (show Kept w _ (fun k_ => P3_ k_) from zK HK.out).1) : w.heap.size ≤ gb446)) ((zS hg (below_size (zH HB.out)) : w0.heap.size ≤ gb446)) ?_; clear HO3 HK HB; intro HO3 HK HB BK446 GW446 GE446; clear hb hbox hg; obtain ⟨hcz7_0, hcz7_1⟩ := zc2 BK446; obtain ⟨hfz7_0, hfz7_1⟩ := zf2 BK446; obtain ⟨Ao8, co8, eo8⟩ := Kd.R_slice HO3.out; subst eo8) | ((with_reducible refine gate_callee (f := 24) rfl ?_); refine goesL_ (some 16) rfl rfl Try.func24 (by kernel_rfl) rfl #[.agg #[.int .i64 a0_0, .slice A0_1 l0_1.length c0_1], .int .i64 a1, .int .i64 a2, .slice Ao8 l3.length co8] rfl zM ?_; (with_reducible refine (spec_l07Race.calls k a0_0 _ _ l0_1 a1 a2 (fun k_ => some k_ = (.slice Ao8 l3.length co8 : Value).ownBlock) (.slice Ao8 l3.length co8) l3 t447 t448 w0 _ ?side1 ?side2 ?side3 ?side4 A5.out).mono ?_); (case side1 => exact zH1 HB.out GE446.out); (case side2 => exact Kd.C_kept_call HR0_1.out (zK1 HK.out GW446.out) (fun k_ hs_ => (fun e_ => (HO3.out.1 k_ e_.symm)) hs_)); (case side3 => exact HC0_1.out); (case side4 => exact Kd.R_tight rfl HO3.out); rintro e w9 ⟨rfl, hy0, hb, hkp⟩; refine ⟨_, rfl, ?_⟩; refine zA4 (Kd.R_reok rfl hy0 (fun k_ e_ => HO3.out.1 k_ e_)) (blk_kept (zB BK446.out) hkp (fun hs_ => (fun e_ => (Kd.R_ne HO3.out BK446.out (by decide)) e_) hs_)) (Kept.then_ (S := (fun k_ => P3_ k_)) (zK1 HK.out GW446.out) hkp (fun k_ hs_ => (fun e_ => (HO3.out.1 k_ e_.symm)) hs_)) (hb) ?_; clear HO3 BK446 HK HB; intro HO3 BK446 HK HB; (try clear hb); (try clear hkp); (try clear hy0)) | ((with_reducible refine gate_dst (N := 17) rfl ?_); refine Kd.R_lit (Kd.int .i64) _ 2 ?hg (N := 17) ?hd (xs := ([] : List Int)) (inner := []) (ok := fun _ => True) (okp := fun _ => True) ?hr ?hp (fun _ hk => hk) trivial (Below.refl _ _) (Nat.le_refl _) (by simp) ?_; (case hd => rfl); (case hg => rfl); (case hr => first | (go_simp; done) | (go_simp; rfl)); (case hp => exact (Reps.none _ _)); intro v450 w10 ho11 hb hg_ hnew_; clear hg_ hnew_; (first | rw [← Ny449.out] at ho11 | (simp only [Int.reduceToNat] at ho11; rw [← Ny449.out] at ho11)); refine zA5 (Kd.R_below (zR HO3.out) hb) (Kd.R_lower (Kd.R_newM (M := fun k_ => (P3_ k_ ∨ w.heap.size ≤ k_)) ho11 (by first | exact HK.out.1 | exact (show Kept w _ (fun k_ => P3_ k_) from zK1 HK.out GW446.out).1) (fun k_ h_ => .inr h_)) (below_size (zH1 HB.out GE446.out))) (blk_below (g := gb446) (o := .cells #[.int .i64 a0_0, .slice A0_1 l0_1.length c0_1] 26 (0, 0)) (zB BK446.out) hb) (Kept.below (S := (fun k_ => P3_ k_)) (zK1 HK.out GW446.out) hb) (below_step (zH1 HB.out GE446.out) hb) ?_; clear HO3 BK446 HK HB; intro HO3 HO451 BK446 HK HB; clear hb ho11))
  go_loopg [10, 11] k (fun kq v10 v11 w' => ∃ (x3_1 : List Int) (x10_1 : List Int) (x11_1 : Int), v11 = .int .i64 x11_1 ∧ Aside0 (spec_l07Best.l0 kq a1 a2 x3_1 t447 x10_1 x11_1 a0_0 l0_1 = some (r1, r2)) ∧ Aside0 (kq ≤ k) ∧ Aside0 (Kd.R (Kd.int .i8) 72 w' w0.heap.size (fun k_ => (P3_ k_ ∨ w.heap.size ≤ k_)) (.slice Ao8 l3.length co8) x3_1) ∧ Aside0 (Kd.R (Kd.int .i64) 2 w' w0.heap.size (fun k_ => (P3_ k_ ∨ w.heap.size ≤ k_)) v10 x10_1) ∧ Aside0 (w'.heap[gb446]? = some (.cells #[.int .i64 a0_0, (.slice A0_1 l0_1.length c0_1)] 26 (0, 0))) ∧ Aside0 (Kept w w' (fun k_ => P3_ k_)) ∧ Aside0 (Below w0.heap.size w0 w'))
  case atStart => exact ⟨(t448), (y449), (0), (zF), H', ⟨Nat.le_refl _⟩, ⟨zR HO3.out⟩, ⟨zRm HO451.out (fun _ hk => hk.1)⟩, ⟨zB BK446.out⟩, ⟨zK1 HK.out GW446.out⟩, ⟨zH1 HB.out GE446.out⟩⟩
  case round =>
    clear H'
    try clear c2
    try clear p2
    try clear hcz7_0
    try clear hcz7_1
    try clear hfz7_0
    try clear hfz7_1
    obtain ⟨x3_1, x10_1, x11_1, rfl, HA, HK1, HO_3, HO_10, BK446, HK, HB⟩ := hrel
    have hl3_1 := (Kd.R_reads' HO_3.out).1
    rw [hl3_1] at HO_3
    (try simp only [hl3_1])
    (try simp only [hl3_1] at BK446)
    (try simp only [hl3_1] at HO_10)
    cases gk with
    | zero => exact absurd HA.out (by simp [spec_l07Best.l0])
    | succ k1 =>
      have H := HA.out
      clear HA
      simp only [spec_l07Best.l0] at H
      by_cases c12 : x11_1 < a0_0
      · rw [if_pos c12] at H
        have c12b0 := decide_eq_true c12
        clear c12
        obtain ⟨ji13, hji13⟩ := zj (IntKind.u64.wrap (x11_1))
        (first | rw [hji13] at H | simp only [hji13] at H)
        by_cases c14 : 0 ≤ (ji13)
        · rw [if_pos c14] at H
          have c14b0 := eq_true c14
          have c14b1 := decide_eq_true c14
          clear c14
          obtain ⟨ji15, hji15⟩ := zj (shr .i64 (Go.bits .or .i64 a1 a2) (ji13))
          (first | rw [hji15] at H | simp only [hji15] at H)
          have hji15_ : ((Go.bits .or .i64 a1 a2) / 2 ^ min (ji13).toNat 64) = ji15 := hji15
          have hji15z : (ji13) ≤ 64 → ((Go.bits .or .i64 a1 a2) / 2 ^ (ji13).toNat) = ji15 := shr_small hji15
          by_cases c16 : (Go.bits .and .i64 (ji15) 1) = 0
          · rw [if_pos c16] at H
            have c16b0 := zq1 c16
            have c16b1 := zq2 c16
            clear c16
            obtain ⟨⟨t452, t453⟩, A17, H⟩ := zb H; (try dsimp only at H)
            by_cases c18 : t452 = t447
            · rw [if_pos c18] at H
              have c18b0 := zq1 c18
              have c18b1 := zq2 c18
              clear c18
              by_cases c19 : x10_1.length < 17592186044416
              · rw [if_pos c19] at H
                have LMc19 := Aside0.mk c19
                clear c19
                obtain ⟨y454, hy454⟩ : ∃ y_ : List Int, y_ = (x10_1 ++ [x11_1]) := ⟨_, rfl⟩
                replace H : (spec_l07Best.l0 k1 a1 a2 t453 t447 y454 (wrap64 (x11_1 + 1)) a0_0 l0_1) = some (r1, r2) := by first | (rw [hy454]; with_reducible exact H) | (have H2_ := (Option.bind_some _ _).symm.trans H; rw [hy454]; with_reducible exact H2_) | (have H2_ := (Option.bind_some _ _).symm.trans H; with_reducible exact H2_) | with_reducible exact H | (rw [hy454]; exact H) | exact H
                have Ny454 := Aside0.mk hy454
                clear hy454
                have H' := Aside0.mk H
                clear H
                obtain ⟨hcz20_0, hcz20_1⟩ := zc2 BK446
                obtain ⟨hfz20_0, hfz20_1⟩ := zf2 BK446
                go_wp2_with (first | (go_at_call 49; (with_reducible refine (spec_l07Behind.calls k1 a0_0 _ _ l0_1 a1 a2 x11_1 (fun k_ => some k_ = (.slice Ao8 x3_1.length co8 : Value).ownBlock) (.slice Ao8 x3_1.length co8) x3_1 t452 t453 w0 _ ?side1 ?side2 ?side3 ?side4 A17.out).mono ?_); (case side1 => exact zH1 HB.out GE446.out); (case side2 => exact Kd.C_kept_call HR0_1.out (zK1 HK.out GW446.out) (fun k_ hs_ => (fun e_ => (HO_3.out.1 k_ e_.symm)) hs_)); (case side3 => exact HC0_1.out); (case side4 => exact Kd.R_tight rfl HO_3.out); rintro e w21 ⟨rfl, hy0, hb, hkp⟩; refine zA5 (Kd.R_reok rfl hy0 (fun k_ e_ => HO_3.out.1 k_ e_)) (Kd.R_mono (ok' := fun k_ => (P3_ k_ ∨ w.heap.size ≤ k_)) (Kd.R_keptB ((Kd.R_apart' HO_10.out (Kd.R_typed HO_3.out) (by decide))) hkp (fun k_ hk_ hs_ => (hk_.2) hs_)) (fun k_ hk_ => hk_.1.1)) (blk_kept (zB BK446.out) hkp (fun hs_ => (fun e_ => (Kd.R_ne HO_3.out BK446.out (by decide)) e_) hs_)) (Kept.then_ (S := (fun k_ => P3_ k_)) (zK1 HK.out GW446.out) hkp (fun k_ hs_ => (fun e_ => (HO_3.out.1 k_ e_.symm)) hs_)) (hb) ?_; clear HO_3 HO_10 BK446 HK HB; intro HO_3 HO_10 BK446 HK HB; (try clear hb); (try clear hkp); (try clear hy0)) | ((with_reducible refine gate_builtin (b := .append) (xs := #[.tmp 42, .tmp 44]) rfl ?_); at_builtin; refine Kd.R_append (Kd.int .i64) (w0 := w0) w0.heap.size rfl (.tmp 42) (.tmp 44) 24 2 (.int .i64 0) 8 rfl Try.underlying24 info2 rfl (by decide) (by omega) u10 x10_1 x11_1 [.int .i64 x11_1] (fun k_ => (P3_ k_ ∨ w.heap.size ≤ k_)) (fun _ => False) rfl rfl ?aP (fun _ hk => hk.elim) ?aF ?aO ?aB ?aS ?aL ?_; (case aP => exact rfl); (case aB => exact (zH1 HB.out GE446.out)); (case aF => exact (fun k_ hk => (.inr (Nat.le_trans (by first | exact HK.out.1 | exact (show Kept w _ (fun k_ => P3_ k_) from zK1 HK.out GW446.out).1) hk)))); (case aO => exact (zR HO_10.out)); (case aS => exact (below_size (zH1 HB.out GE446.out))); (case aL => have := LMc19.out; omega); intro v455 w22 ho hb hg hat; rw [← Ny454.out] at ho; refine zA5 (Kd.R_over' (zR HO_3.out) (Kd.R_typed (zR HO_10.out)) (by decide) hg) (blk_grown (g := gb446) (o := .cells #[.int .i64 a0_0, .slice A0_1 l0_1.length c0_1] 26 (0, 0)) (zB BK446.out) hg (Kd.R_ne HO_10.out BK446.out (by decide))) (hb) (Kept.of_grown (S := (fun k_ => P3_ k_)) hg (zK1 HK.out GW446.out) (fun k_ e_ => (HO_10.out.1 k_ e_))) (ho) ?_; clear HO_3 BK446 HB HK HO_10; intro HO_3 BK446 HB HK HO456; clear ho hb hg hat))
                (try simp only [← hl3_1])
                go_roundg k1
                case measure => have := HK1.out; omega
                case rel => exact ⟨(t453), (y454), (wrap64 (x11_1 + 1)), (zF), H', ⟨by have := HK1.out; omega⟩, ⟨by (try simp only [hl3_1]); exact zR HO_3.out⟩, ⟨by (try simp only [hl3_1]); exact zR HO456.out⟩, ⟨by (try simp only [hl3_1]); exact zB BK446.out⟩, ⟨zK1 HK.out GW446.out⟩, ⟨zH1 HB.out GE446.out⟩⟩
              · rw [if_neg c19] at H
                exact absurd H (by simp)
            · rw [if_neg c18] at H
              have c18b0 := zq3 c18
              have c18b1 := zq4 c18
              have H' := Aside0.mk H
              clear H
              obtain ⟨hcz23_0, hcz23_1⟩ := zc2 BK446
              obtain ⟨hfz23_0, hfz23_1⟩ := zf2 BK446
              go_wp2_with (first | (go_at_call 49; (with_reducible refine (spec_l07Behind.calls k1 a0_0 _ _ l0_1 a1 a2 x11_1 (fun k_ => some k_ = (.slice Ao8 x3_1.length co8 : Value).ownBlock) (.slice Ao8 x3_1.length co8) x3_1 t452 t453 w0 _ ?side1 ?side2 ?side3 ?side4 A17.out).mono ?_); (case side1 => exact zH1 HB.out GE446.out); (case side2 => exact Kd.C_kept_call HR0_1.out (zK1 HK.out GW446.out) (fun k_ hs_ => (fun e_ => (HO_3.out.1 k_ e_.symm)) hs_)); (case side3 => exact HC0_1.out); (case side4 => exact Kd.R_tight rfl HO_3.out); rintro e w24 ⟨rfl, hy0, hb, hkp⟩; refine zA5 (Kd.R_reok rfl hy0 (fun k_ e_ => HO_3.out.1 k_ e_)) (Kd.R_mono (ok' := fun k_ => (P3_ k_ ∨ w.heap.size ≤ k_)) (Kd.R_keptB ((Kd.R_apart' HO_10.out (Kd.R_typed HO_3.out) (by decide))) hkp (fun k_ hk_ hs_ => (hk_.2) hs_)) (fun k_ hk_ => hk_.1.1)) (blk_kept (zB BK446.out) hkp (fun hs_ => (fun e_ => (Kd.R_ne HO_3.out BK446.out (by decide)) e_) hs_)) (Kept.then_ (S := (fun k_ => P3_ k_)) (zK1 HK.out GW446.out) hkp (fun k_ hs_ => (fun e_ => (HO_3.out.1 k_ e_.symm)) hs_)) (hb) ?_; clear HO_3 HO_10 BK446 HK HB; intro HO_3 HO_10 BK446 HK HB; (try clear hb); (try clear hkp); (try clear hy0)))
              (try simp only [← hl3_1])
              go_roundg k1
              case measure => have := HK1.out; omega
              case rel => exact ⟨(t453), (x10_1), (wrap64 (x11_1 + 1)), (zF), H', ⟨by have := HK1.out; omega⟩, ⟨by (try simp only [hl3_1]); exact zR HO_3.out⟩, ⟨by (try simp only [hl3_1]); exact zR HO_10.out⟩, ⟨by (try simp only [hl3_1]); exact zB BK446.out⟩, ⟨zK1 HK.out GW446.out⟩, ⟨zH1 HB.out GE446.out⟩⟩
          · rw [if_neg c16] at H
            have c16b0 := zq3 c16
            have c16b1 := zq4 c16
            have H' := Aside0.mk H
            clear H
            obtain ⟨hcz25_0, hcz25_1⟩ := zc2 BK446
            obtain ⟨hfz25_0, hfz25_1⟩ := zf2 BK446
            go_wp2
            (try simp only [← hl3_1])
            go_roundg k1
            case measure => have := HK1.out; omega
            case rel => exact ⟨(x3_1), (x10_1), (wrap64 (x11_1 + 1)), (zF), H', ⟨by have := HK1.out; omega⟩, ⟨by (try simp only [hl3_1]); exact zR HO_3.out⟩, ⟨by (try simp only [hl3_1]); exact zR HO_10.out⟩, ⟨by (try simp only [hl3_1]); exact zB BK446.out⟩, ⟨zK1 HK.out GW446.out⟩, ⟨zH1 HB.out GE446.out⟩⟩
        · rw [if_neg c14] at H
          exact absurd H (by simp)
      · rw [if_neg c12] at H
        have c12b0 := decide_eq_false c12
        clear c12
        simp only [Option.some.injEq, Prod.mk.injEq] at H
        obtain ⟨rfl, rfl⟩ := H
        obtain ⟨hcz26_0, hcz26_1⟩ := zc2 BK446
        obtain ⟨hfz26_0, hfz26_1⟩ := zf2 BK446
        go_wp2
        go_ret
        exact ⟨_, zE, by (with_reducible repeat (first | apply Kd.R_alloc | apply Kd.R_drewN | apply Kd.R_drew)); exact HO_10.out, (by first | exact (zR HO_3.out) | (simp only [hl3_1]; exact (zR HO_3.out))), zH1 HB.out GE446.out, zK1 HK.out GW446.out⟩

/-! ### spec_BestNodes: function 9 -/
def spec_BestNodes.f (k : Nat) (a0_0 : Int) (l0_1 : List Int) (a1 : Int) (a2 : Int) : Option (List Int × Int) := (spec_l07Running.f k a0_0 l0_1 a1 a2).bind fun t458 => (if t458 = 0 then ((spec_l07Table.f k a0_0 l0_1).bind fun t459 => ((spec_l07Best.f k a0_0 l0_1 a1 a2 t459).bind fun bt462 => (some (bt462.1, 0)))) else (some (([] : List Int), t458)))
theorem spec_BestNodes.mono : ∀ a0 a1 a2 a3 k, LeO (spec_BestNodes.f k a0 a1 a2 a3) (spec_BestNodes.f (k + 1) a0 a1 a2 a3) := by
  intro a0 a1 a2 a3 k
  unfold spec_BestNodes.f
  repeat' first
      | (with_reducible exact spec_l07Best.mono _ _ _ _ _ _)
      | (with_reducible exact spec_l07Running.mono _ _ _ _ _)
      | (with_reducible exact spec_l07Table.mono _ _ _)
      | (with_reducible exact LeO.refl _)
      | (with_reducible exact LeO.none _)
      | (with_reducible refine LeO.ite ?_ ?_)
      | (with_reducible refine LeO.bind ?_ (fun _ => ?_))
      | exact spec_l07Best.mono _ _ _ _ _ _
      | exact spec_l07Running.mono _ _ _ _ _
      | exact spec_l07Table.mono _ _ _
      | exact LeO.none _
      | refine LeO.ite ?_ ?_
      | refine LeO.bind ?_ (fun _ => ?_)
def spec_BestNodes.T4 : Bool × List (List Nat × List Nat) := (true, [([], []), ([], []), ([], []), ([], []), ([3], [3]), ([0, 1, 2, 4, 4], [0, 1, 2, 4]), ([5, 5, 0, 1, 2, 3, 4, 5], [5]), ([6, 0, 1, 2, 3, 4, 5, 6], [])])
def spec_BestNodes.B4 : List Nat := [0, 0, 0, 0, 8, 31, 63, 127]
theorem spec_BestNodes.tab4 : rtab .any (opsOf Try.f9 4) = spec_BestNodes.T4 := by kernel_rfl
theorem spec_BestNodes.bits4 : waitsOk spec_BestNodes.T4.2 spec_BestNodes.B4 = true := by kernel_rfl
set_option maxHeartbeats 8000000 in
set_option maxRecDepth 100000 in
theorem spec_BestNodes.calls (k : Nat) (a0_0 : Int) (A0_1 : Option Addr) (c0_1 : Nat) (l0_1 : List Int) (a1 : Int) (a2 : Int) (r1 : List Int) (r2 : Int) (w : World) (hr0_1 : Kd.C (Kd.int .i64) w A0_1 l0_1.length l0_1) (hc0_1 : l0_1.length ≤ c0_1) (h : spec_BestNodes.f k a0_0 l0_1 a1 a2 = some (r1, r2)) :
    Calls Try.prog 9 #[.agg #[.int .i64 a0_0, .slice A0_1 l0_1.length c0_1], .int .i64 a1, .int .i64 a2] w fun e w' => ∃ v0_ : Value, e = .returned (.tuple #[v0_, .int .i64 r2]) ∧ Kd.R (Kd.int .i64) 2 w' w.heap.size (fun _ => True) v0_ r1 ∧ Below w.heap.size w w' := by
  have hu26 := Try.underlying26
  have HR0_1 := Aside0.mk hr0_1
  have HC0_1 := Aside0.mk hc0_1
  clear hr0_1 hc0_1
  have HB := Aside0.mk (Below.refl w.heap.size w)
  have H : ((spec_l07Running.f k a0_0 l0_1 a1 a2).bind fun t458 => (if t458 = 0 then ((spec_l07Table.f k a0_0 l0_1).bind fun t459 => ((spec_l07Best.f k a0_0 l0_1 a1 a2 t459).bind fun bt462 => (some (bt462.1, 0)))) else (some (([] : List Int), t458)))) = some (r1, r2) := h
  clear h
  obtain ⟨t458, A4, H⟩ := zb H
  by_cases c5 : t458 = 0
  · rw [if_pos c5] at H
    have c5b0 := zq1 c5
    have c5b1 := zq2 c5
    clear c5
    obtain ⟨t459, A6, H⟩ := zb H
    obtain ⟨⟨t462, t465⟩, A7, H⟩ := zb H; (try dsimp only at H)
    simp only [Option.some.injEq, Prod.mk.injEq] at H
    obtain ⟨rfl, rfl⟩ := H
    go_enter Try.func9, Try.ntmps9
    try go_wp2_with (first | ((with_reducible refine gate_dst (N := 3) rfl ?_); refine zX 3 #[.int .i64 a0_0, .slice A0_1 l0_1.length c0_1] 26 ?_; intro gb457 hg w8 hbox hb; refine zA4 (below_step (zH HB.out) hb) (hbox) ((zS hg (below_size (zH HB.out)) : w.heap.size ≤ gb457)) ((zS hg (below_size (zH HB.out)) : w.heap.size ≤ gb457)) ?_; clear HB; intro HB BK457 GW457 GE457; clear hb hbox hg; obtain ⟨hcz9_0, hcz9_1⟩ := zc2 BK457; obtain ⟨hfz9_0, hfz9_1⟩ := zf2 BK457) | ((with_reducible refine gate_callee (f := 23) rfl ?_); refine goesL_ (some 12) rfl rfl Try.func23 (by kernel_rfl) rfl #[.agg #[.int .i64 a0_0, .slice A0_1 l0_1.length c0_1], .int .i64 a1, .int .i64 a2] rfl zM ?_; (with_reducible refine (spec_l07Running.calls k a0_0 _ _ l0_1 a1 a2 t458 _ ?side1 ?side2 A4.out).mono ?_); (case side1 => repeat (first | exact (Kd.C_below HR0_1.out HB.out) | (with_reducible refine Kd.C_alloc ?_ _) | (with_reducible refine Kd.C_drewN ?_ _) | (with_reducible refine Kd.C_drew ?_))); (case side2 => exact HC0_1.out); rintro e w10 ⟨rfl, hb⟩; refine ⟨_, rfl, ?_⟩; refine zA2 (blk_below (g := gb457) (o := .cells #[.int .i64 a0_0, .slice A0_1 l0_1.length c0_1] 26 (0, 0)) (zB BK457.out) hb) (below_step (zH1 HB.out GE457.out) hb) ?_; clear BK457 HB; intro BK457 HB; (try clear hb); (try clear hb2); (try clear hk); (try clear hi)))
    refine zA2 (blk_drew BK457.out) (below_drew1 HB.out) ?_
    clear BK457 HB
    intro BK457 HB
    refine start_ (n := 8) (S := fun w' => w'.cell? ⟨gb457, 0, none⟩ = some (.int .i64 a0_0) ∧ w'.cell? ⟨gb457, 1, none⟩ = some (.slice A0_1 l0_1.length c0_1)) (ds := []) #[false, false, false, false, false, false, false, false] (by kernel_rfl) rfl rfl ⟨(blk_cell BK457.out 0).trans rfl, (blk_cell BK457.out 1).trans rfl⟩ (fun hHeld => ?_); refine with_tabW spec_BestNodes.tab4 spec_BestNodes.bits4 (fun HT_ HW_ => ?_)
    generalize w10.drew = w11 at BK457 HB hHeld ⊢
    refine zP HT_ 1 (some 17) rfl rfl ?_
    refine zP HT_ 2 (some 18) rfl rfl ?_
    refine zT HT_ HW_ hHeld 0 (some 16) rfl rfl ?_
    refine zT HT_ HW_ hHeld 3 (some 19) rfl rfl ?_
    refine one_ (i := 4) (N := some 20) #[true, true, true, true, true, false, false, false] rfl rfl (one_of HT_.out (by kernel_rfl)) (by decide) (fun K hK => ?_)
    refine goes_ Try.func25 (by kernel_rfl) rfl #[.agg #[.int .i64 a0_0, .slice A0_1 l0_1.length c0_1]] (by rfl) rfl rfl zM ?_
    with_reducible refine (spec_l07Table.calls k a0_0 _ _ l0_1 t459 _ ?side1 ?side2 A6.out).mono ?_
    (case side1 => repeat (first | exact (Kd.C_below HR0_1.out HB.out) | (with_reducible refine Kd.C_alloc ?_ _) | (with_reducible refine Kd.C_drewN ?_ _) | (with_reducible refine Kd.C_drew ?_)))
    (case side2 => exact HC0_1.out)
    rintro e w12 ⟨v460, rfl, ho0, hb⟩
    refine ⟨_, rfl, ?_⟩
    refine zA3 (Kd.R_lower ho0 (below_size (zH1 HB.out GE457.out))) (blk_below (g := gb457) (o := .cells #[.int .i64 a0_0, .slice A0_1 l0_1.length c0_1] 26 (0, 0)) (zB BK457.out) hb) (below_step (zH1 HB.out GE457.out) hb) ?_
    clear BK457 HB
    intro HO461 BK457 HB
    (try clear hb)
    (try clear hb2)
    (try clear hk)
    (try clear hi)
    (try clear ho0)
    obtain ⟨Ao13, co13, eo13⟩ := Kd.R_slice HO461.out
    (first | subst eo13 | (injection eo13 with f1_ f2_ f3_; have f4_ := f1_.symm; have f5_ := f3_.symm; clear f1_ f2_ f3_; subst f4_; subst f5_))
    refine hK.out _ _ ⟨(blk_cell BK457.out 0).trans rfl, (blk_cell BK457.out 1).trans rfl⟩ (fun hHeld => ?_)
    clear hK K
    refine zW (some 20) ?_
    refine one_ (i := 5) (N := some 21) #[true, true, true, true, true, true, false, false] rfl rfl (one_of HT_.out (by kernel_rfl)) (by decide) (fun K hK => ?_)
    refine goes_ Try.func27 (by kernel_rfl) rfl #[.agg #[.int .i64 a0_0, .slice A0_1 l0_1.length c0_1], .int .i64 a1, .int .i64 a2, .slice Ao13 t459.length co13] (by rfl) rfl rfl zM ?_
    with_reducible refine (spec_l07Best.calls k a0_0 _ _ l0_1 a1 a2 (fun k_ => some k_ = (.slice Ao13 t459.length co13 : Value).ownBlock) (.slice Ao13 t459.length co13) t459 t462 t465 w _ ?side1 ?side2 ?side3 ?side4 A7.out).mono ?_
    (case side1 => exact zH1 HB.out GE457.out)
    (case side2 => exact Kd.C_kept_came (Kd.heap_int .i64) HR0_1.out (zH1 HB.out GE457.out) (fun k_ hs_ => (fun e_ => Kd.R_base HO461.out k_ e_.symm) hs_))
    (case side3 => exact HC0_1.out)
    (case side4 => exact Kd.R_tight rfl HO461.out)
    rintro e w14 ⟨v463, rfl, ho0, hy0, hb, hkp⟩
    refine ⟨_, rfl, ?_⟩
    refine zA4 (blk_kept (zB BK457.out) hkp (fun hs_ => (fun e_ => (Kd.R_ne HO461.out BK457.out (by decide)) e_) hs_)) (Kd.R_reok rfl hy0 (fun k_ e_ => HO461.out.1 k_ e_)) (Kd.R_mono (ok' := fun k_ => True) ho0 (fun k_ hk_ => trivial)) (hb) ?_
    clear BK457 HO461 HB
    intro BK457 HO461 HO464 HB
    (try clear hb)
    (try clear hkp)
    (try clear ho0)
    (try clear hy0)
    refine hK.out _ _ ⟨(blk_cell BK457.out 0).trans rfl, (blk_cell BK457.out 1).trans rfl⟩ (fun hHeld => ?_)
    clear hK K
    refine zW (some 21) ?_
    refine zP HT_ 6 (some 6) rfl rfl ?_
    refine zP HT_ 7 (some 7) rfl rfl ?_
    refine done_ (done_of HT_.out (by kernel_rfl)) ?_
    try go_wp2
    go_ret2
    exact ⟨_, zE, by (with_reducible repeat (first | apply Kd.R_alloc | apply Kd.R_drewN | apply Kd.R_drew)); exact HO464.out, zH1 HB.out GE457.out⟩
  · rw [if_neg c5] at H
    have c5b0 := zq3 c5
    have c5b1 := zq4 c5
    simp only [Option.some.injEq, Prod.mk.injEq] at H
    obtain ⟨rfl, rfl⟩ := H
    go_enter Try.func9, Try.ntmps9
    go_wp2_with (first | ((with_reducible refine gate_dst (N := 3) rfl ?_); refine zX 3 #[.int .i64 a0_0, .slice A0_1 l0_1.length c0_1] 26 ?_; intro gb457 hg w15 hbox hb; refine zA4 (below_step (zH HB.out) hb) (hbox) ((zS hg (below_size (zH HB.out)) : w.heap.size ≤ gb457)) ((zS hg (below_size (zH HB.out)) : w.heap.size ≤ gb457)) ?_; clear HB; intro HB BK457 GW457 GE457; clear hb hbox hg; obtain ⟨hcz16_0, hcz16_1⟩ := zc2 BK457; obtain ⟨hfz16_0, hfz16_1⟩ := zf2 BK457) | ((with_reducible refine gate_callee (f := 23) rfl ?_); refine goesL_ (some 12) rfl rfl Try.func23 (by kernel_rfl) rfl #[.agg #[.int .i64 a0_0, .slice A0_1 l0_1.length c0_1], .int .i64 a1, .int .i64 a2] rfl zM ?_; (with_reducible refine (spec_l07Running.calls k a0_0 _ _ l0_1 a1 a2 t458 _ ?side1 ?side2 A4.out).mono ?_); (case side1 => repeat (first | exact (Kd.C_below HR0_1.out HB.out) | (with_reducible refine Kd.C_alloc ?_ _) | (with_reducible refine Kd.C_drewN ?_ _) | (with_reducible refine Kd.C_drew ?_))); (case side2 => exact HC0_1.out); rintro e w17 ⟨rfl, hb⟩; refine ⟨_, rfl, ?_⟩; refine zA2 (blk_below (g := gb457) (o := .cells #[.int .i64 a0_0, .slice A0_1 l0_1.length c0_1] 26 (0, 0)) (zB BK457.out) hb) (below_step (zH1 HB.out GE457.out) hb) ?_; clear BK457 HB; intro BK457 HB; (try clear hb); (try clear hb2); (try clear hk); (try clear hi)))
    go_ret2
    exact ⟨_, zE, by first | exact Kd.R_nil _ _ _ _ _ | exact Kd.N_nil _ _ _ _ _ | exact Kd.V_nil _ _ _ _ _ | exact Kd.Q_nil _ _ _ _ _ | exact Kd.S_nil _ _ _ _ _, zH1 HB.out GE457.out⟩

/-! ### spec_PlayRace: function 15 -/
mutual
def spec_PlayRace.l0 : Nat → List Int → List Int → Int → Int → Int → List Int → Option (List Int × Int)
  | 0, _, _, _, _, _, _ => none
  | k + 1, x5, x6, x7, x8, x498000, x498001 => if (x6.length : Int) < x498000 then ((spec_l07Fills.f k x498000 x498001 x7).bind fun t505 => (if t505 = true then (spec_PlayRace.j1 k x5 x6 x7 x8 false x498000 x498001) else ((spec_l07Fills.f k x498000 x498001 x8).bind fun t506 => (spec_PlayRace.j1 k x5 x6 x7 x8 (!t506) x498000 x498001)))) else (spec_PlayRace.j1 k x5 x6 x7 x8 false x498000 x498001)
def spec_PlayRace.j1 : Nat → List Int → List Int → Int → Int → Bool → Int → List Int → Option (List Int × Int)
  | 0, _, _, _, _, _, _, _ => none
  | k + 1, x5, x6, x7, x8, x34, x498000, x498001 => if x34 = true then ((spec_l07Best.f k x498000 x498001 x7 x8 x5).bind fun bt507 => (if 0 < (bt507.1.length : Int) then (if ((x6.length : Int) % 2) = 0 then (if 0 ≤ (IntKind.u64.wrap (rd bt507.1 0)) then (if x6.length < 17592186044416 then (spec_PlayRace.l0 k bt507.2 (x6 ++ [rd bt507.1 0]) (Go.bits .or .i64 x7 (shl .i64 1 (IntKind.u64.wrap (rd bt507.1 0)))) x8 x498000 x498001) else (none)) else (none)) else (if 0 ≤ (IntKind.u64.wrap (rd bt507.1 0)) then (if x6.length < 17592186044416 then (spec_PlayRace.l0 k bt507.2 (x6 ++ [rd bt507.1 0]) x7 (Go.bits .or .i64 x8 (shl .i64 1 (IntKind.u64.wrap (rd bt507.1 0)))) x498000 x498001) else (none)) else (none))) else (none))) else (some (x6, 0))
end
def spec_PlayRace.f (k : Nat) (a0_0 : Int) (l0_1 : List Int) : Option (List Int × Int) := (spec_l07Small.f k a0_0 l0_1).bind fun t498 => (if t498 = 0 then ((spec_l07Table.f k a0_0 l0_1).bind fun t499 => (spec_PlayRace.l0 k t499 (([] : List Int)) 0 0 a0_0 l0_1)) else (some (([] : List Int), t498)))
theorem spec_PlayRace.mono_l : ∀ k, (∀ y0 y1 y2 y3 y4 y5, LeO (spec_PlayRace.l0 k y0 y1 y2 y3 y4 y5) (spec_PlayRace.l0 (k + 1) y0 y1 y2 y3 y4 y5)) ∧ (∀ y0 y1 y2 y3 y4 y5 y6, LeO (spec_PlayRace.j1 k y0 y1 y2 y3 y4 y5 y6) (spec_PlayRace.j1 (k + 1) y0 y1 y2 y3 y4 y5 y6))
  | 0 => ⟨fun _ _ _ _ _ _ r h => by simp [spec_PlayRace.l0] at h, fun _ _ _ _ _ _ _ r h => by simp [spec_PlayRace.j1] at h⟩
  | k + 1 => by
    obtain ⟨ih0, ih1⟩ := spec_PlayRace.mono_l k
    refine ⟨?_, ?_⟩
    · intro y0 y1 y2 y3 y4 y5
      unfold spec_PlayRace.l0
      repeat' first
      | (with_reducible exact ih0 _ _ _ _ _ _)
      | (with_reducible exact ih1 _ _ _ _ _ _ _)
      | (with_reducible exact spec_l07Best.mono _ _ _ _ _ _)
      | (with_reducible exact spec_l07Fills.mono _ _ _ _)
      | (with_reducible exact spec_l07Small.mono _ _ _)
      | (with_reducible exact spec_l07Table.mono _ _ _)
      | (with_reducible exact LeO.refl _)
      | (with_reducible exact LeO.none _)
      | (with_reducible refine LeO.ite ?_ ?_)
      | (with_reducible refine LeO.bind ?_ (fun _ => ?_))
      | exact ih0 _ _ _ _ _ _
      | exact ih1 _ _ _ _ _ _ _
      | exact spec_l07Best.mono _ _ _ _ _ _
      | exact spec_l07Fills.mono _ _ _ _
      | exact spec_l07Small.mono _ _ _
      | exact spec_l07Table.mono _ _ _
      | exact LeO.none _
      | refine LeO.ite ?_ ?_
      | refine LeO.bind ?_ (fun _ => ?_)
    · intro y0 y1 y2 y3 y4 y5 y6
      unfold spec_PlayRace.j1
      repeat' first
      | (with_reducible exact ih0 _ _ _ _ _ _)
      | (with_reducible exact ih1 _ _ _ _ _ _ _)
      | (with_reducible exact spec_l07Best.mono _ _ _ _ _ _)
      | (with_reducible exact spec_l07Fills.mono _ _ _ _)
      | (with_reducible exact spec_l07Small.mono _ _ _)
      | (with_reducible exact spec_l07Table.mono _ _ _)
      | (with_reducible exact LeO.refl _)
      | (with_reducible exact LeO.none _)
      | (with_reducible refine LeO.ite ?_ ?_)
      | (with_reducible refine LeO.bind ?_ (fun _ => ?_))
      | exact ih0 _ _ _ _ _ _
      | exact ih1 _ _ _ _ _ _ _
      | exact spec_l07Best.mono _ _ _ _ _ _
      | exact spec_l07Fills.mono _ _ _ _
      | exact spec_l07Small.mono _ _ _
      | exact spec_l07Table.mono _ _ _
      | exact LeO.none _
      | refine LeO.ite ?_ ?_
      | refine LeO.bind ?_ (fun _ => ?_)
theorem spec_PlayRace.mono : ∀ a0 a1 k, LeO (spec_PlayRace.f k a0 a1) (spec_PlayRace.f (k + 1) a0 a1) := by
  intro a0 a1 k
  obtain ⟨ih0, ih1⟩ := spec_PlayRace.mono_l k
  unfold spec_PlayRace.f
  repeat' first
      | (with_reducible exact ih0 _ _ _ _ _ _)
      | (with_reducible exact ih1 _ _ _ _ _ _ _)
      | (with_reducible exact spec_l07Best.mono _ _ _ _ _ _)
      | (with_reducible exact spec_l07Fills.mono _ _ _ _)
      | (with_reducible exact spec_l07Small.mono _ _ _)
      | (with_reducible exact spec_l07Table.mono _ _ _)
      | (with_reducible exact LeO.refl _)
      | (with_reducible exact LeO.none _)
      | (with_reducible refine LeO.ite ?_ ?_)
      | (with_reducible refine LeO.bind ?_ (fun _ => ?_))
      | exact ih0 _ _ _ _ _ _
      | exact ih1 _ _ _ _ _ _ _
      | exact spec_l07Best.mono _ _ _ _ _ _
      | exact spec_l07Fills.mono _ _ _ _
      | exact spec_l07Small.mono _ _ _
      | exact spec_l07Table.mono _ _ _
      | exact LeO.none _
      | refine LeO.ite ?_ ?_
      | refine LeO.bind ?_ (fun _ => ?_)
set_option maxHeartbeats 8000000 in
set_option maxRecDepth 100000 in
theorem spec_PlayRace.calls (k : Nat) (a0_0 : Int) (A0_1 : Option Addr) (c0_1 : Nat) (l0_1 : List Int) (r1 : List Int) (r2 : Int) (w : World) (hr0_1 : Kd.C (Kd.int .i64) w A0_1 l0_1.length l0_1) (hc0_1 : l0_1.length ≤ c0_1) (h : spec_PlayRace.f k a0_0 l0_1 = some (r1, r2)) :
    Calls Try.prog 15 #[.agg #[.int .i64 a0_0, .slice A0_1 l0_1.length c0_1]] w fun e w' => ∃ v0_ : Value, e = .returned (.tuple #[v0_, .int .i64 r2]) ∧ Kd.R (Kd.int .i64) 2 w' w.heap.size (fun _ => True) v0_ r1 ∧ Below w.heap.size w w' := by
  have hu26 := Try.underlying26
  have HR0_1 := Aside0.mk hr0_1
  have HC0_1 := Aside0.mk hc0_1
  clear hr0_1 hc0_1
  have HB := Aside0.mk (Below.refl w.heap.size w)
  have H : ((spec_l07Small.f k a0_0 l0_1).bind fun t498 => (if t498 = 0 then ((spec_l07Table.f k a0_0 l0_1).bind fun t499 => (spec_PlayRace.l0 k t499 (([] : List Int)) 0 0 a0_0 l0_1)) else (some (([] : List Int), t498)))) = some (r1, r2) := h
  clear h
  obtain ⟨t498, A2, H⟩ := zb H
  by_cases c3 : t498 = 0
  · rw [if_pos c3] at H
    have c3b0 := zq1 c3
    have c3b1 := zq2 c3
    clear c3
    obtain ⟨t499, A4, H⟩ := zb H
    obtain ⟨y502, hy502⟩ : ∃ y_ : List Int, y_ = (([] : List Int)) := ⟨_, rfl⟩
    replace H : (spec_PlayRace.l0 k t499 y502 0 0 a0_0 l0_1) = some (r1, r2) := by first | (rw [hy502]; with_reducible exact H) | (have H2_ := (Option.bind_some _ _).symm.trans H; rw [hy502]; with_reducible exact H2_) | (have H2_ := (Option.bind_some _ _).symm.trans H; with_reducible exact H2_) | with_reducible exact H | (rw [hy502]; exact H) | exact H
    have Ny502 := Aside0.mk hy502
    clear hy502
    have H' := Aside0.mk H
    clear H
    go_enter Try.func15, Try.ntmps15
    go_wp2_with (first | ((with_reducible refine gate_dst (N := 1) rfl ?_); refine zX 1 #[.int .i64 a0_0, .slice A0_1 l0_1.length c0_1] 26 ?_; intro gb497 hg w5 hbox hb; refine zA4 (below_step (zH HB.out) hb) (hbox) ((zS hg (below_size (zH HB.out)) : w.heap.size ≤ gb497)) ((zS hg (below_size (zH HB.out)) : w.heap.size ≤ gb497)) ?_; clear HB; intro HB BK497 GW497 GE497; clear hb hbox hg; obtain ⟨hcz6_0, hcz6_1⟩ := zc2 BK497; obtain ⟨hfz6_0, hfz6_1⟩ := zf2 BK497) | ((with_reducible refine gate_callee (f := 36) rfl ?_); refine goesL_ (some 11) rfl rfl Try.func36 (by kernel_rfl) rfl #[.agg #[.int .i64 a0_0, .slice A0_1 l0_1.length c0_1]] rfl zM ?_; (with_reducible refine (spec_l07Small.calls k a0_0 _ _ l0_1 t498 _ ?side1 ?side2 A2.out).mono ?_); (case side1 => repeat (first | exact (Kd.C_below HR0_1.out HB.out) | (with_reducible refine Kd.C_alloc ?_ _) | (with_reducible refine Kd.C_drewN ?_ _) | (with_reducible refine Kd.C_drew ?_))); (case side2 => exact HC0_1.out); rintro e w7 ⟨rfl, hb⟩; refine ⟨_, rfl, ?_⟩; refine zA2 (blk_below (g := gb497) (o := .cells #[.int .i64 a0_0, .slice A0_1 l0_1.length c0_1] 26 (0, 0)) (zB BK497.out) hb) (below_step (zH1 HB.out GE497.out) hb) ?_; clear BK497 HB; intro BK497 HB; (try clear hb); (try clear hb2); (try clear hk); (try clear hi); obtain ⟨hcz8_0, hcz8_1⟩ := zc2 BK497; obtain ⟨hfz8_0, hfz8_1⟩ := zf2 BK497) | ((with_reducible refine gate_callee (f := 25) rfl ?_); refine goesL_ (some 16) rfl rfl Try.func25 (by kernel_rfl) rfl #[.agg #[.int .i64 a0_0, .slice A0_1 l0_1.length c0_1]] rfl zM ?_; (with_reducible refine (spec_l07Table.calls k a0_0 _ _ l0_1 t499 _ ?side1 ?side2 A4.out).mono ?_); (case side1 => repeat (first | exact (Kd.C_below HR0_1.out HB.out) | (with_reducible refine Kd.C_alloc ?_ _) | (with_reducible refine Kd.C_drewN ?_ _) | (with_reducible refine Kd.C_drew ?_))); (case side2 => exact HC0_1.out); rintro e w9 ⟨v500, rfl, ho0, hb⟩; refine ⟨_, rfl, ?_⟩; refine zA3 (Kd.R_lower ho0 (below_size (zH1 HB.out GE497.out))) (blk_below (g := gb497) (o := .cells #[.int .i64 a0_0, .slice A0_1 l0_1.length c0_1] 26 (0, 0)) (zB BK497.out) hb) (below_step (zH1 HB.out GE497.out) hb) ?_; clear BK497 HB; intro HO501 BK497 HB; (try clear hb); (try clear hb2); (try clear hk); (try clear hi); (try clear ho0)) | ((with_reducible refine gate_dst (N := 17) rfl ?_); refine Kd.R_lit (Kd.int .i64) _ 2 ?hg (N := 17) ?hd (xs := ([] : List Int)) (inner := []) (ok := fun _ => True) (okp := fun _ => True) ?hr ?hp (fun _ hk => hk) trivial (Below.refl _ _) (Nat.le_refl _) (by simp) ?_; (case hd => rfl); (case hg => rfl); (case hr => first | (go_simp; done) | (go_simp; rfl)); (case hp => exact (Reps.none _ _)); intro v503 w10 ho11 hb hg_ hnew_; clear hg_ hnew_; (first | rw [← Ny502.out] at ho11 | (simp only [Int.reduceToNat] at ho11; rw [← Ny502.out] at ho11)); refine zA4 (Kd.R_below (zR HO501.out) hb) (Kd.R_lower ho11 (below_size (zH1 HB.out GE497.out))) (blk_below (g := gb497) (o := .cells #[.int .i64 a0_0, .slice A0_1 l0_1.length c0_1] 26 (0, 0)) (zB BK497.out) hb) (below_step (zH1 HB.out GE497.out) hb) ?_; clear HO501 BK497 HB; intro HO501 HO504 BK497 HB; clear hb ho11))
    go_loopg [6, 7, 8] k (fun kq v6 v7 v8 w' => ∃ (x5_1 : List Int) (x6_1 : List Int) (x7_1 : Int) (x8_1 : Int), v7 = .int .i64 x7_1 ∧ v8 = .int .i64 x8_1 ∧ Aside0 (spec_PlayRace.l0 kq x5_1 x6_1 x7_1 x8_1 a0_0 l0_1 = some (r1, r2)) ∧ Aside0 (kq ≤ k) ∧ Aside0 (Kd.R (Kd.int .i8) 72 w' w.heap.size (fun _ => True) v500 x5_1) ∧ Aside0 (Kd.R (Kd.int .i64) 2 w' w.heap.size (fun _ => True) v6 x6_1) ∧ Aside0 (w'.heap[gb497]? = some (.cells #[.int .i64 a0_0, (.slice A0_1 l0_1.length c0_1)] 26 (0, 0))) ∧ Aside0 (Below w.heap.size w w'))
    case atStart => exact ⟨(t499), (y502), (0), (0), (zF), (zF), H', ⟨Nat.le_refl _⟩, ⟨zR HO501.out⟩, ⟨zR HO504.out⟩, ⟨zB BK497.out⟩, ⟨zH1 HB.out GE497.out⟩⟩
    case round =>
      clear H'
      try clear c1
      try clear c2
      try clear p2
      try clear c3
      try clear c3b0
      try clear c3b1
      try clear hcz6_0
      try clear hcz6_1
      try clear hcz8_0
      try clear hcz8_1
      try clear hfz6_0
      try clear hfz6_1
      try clear hfz8_0
      try clear hfz8_1
      obtain ⟨x5_1, x6_1, x7_1, x8_1, rfl, rfl, HA, HK1, HO_5, HO_6, BK497, HB⟩ := hrel
      cases gk with
      | zero => exact absurd HA.out (by simp [spec_PlayRace.l0])
      | succ k1 =>
        have H := HA.out
        clear HA
        simp only [spec_PlayRace.l0] at H
        have HC12 := Aside0.mk H
        clear H
        go_upto_region 5 with (fail)
        go_cut [34] (fun v34 wc => ∃ (kq : Nat) (x34_11 : Bool), v34 = .bool x34_11 ∧ Aside0 (spec_PlayRace.j1 kq x5_1 x6_1 x7_1 x8_1 x34_11 a0_0 l0_1 = some (r1, r2)) ∧ Aside0 (kq ≤ k1) ∧ Aside0 (Kd.R (Kd.int .i8) 72 wc w.heap.size (fun _ => True) v500 x5_1) ∧ Aside0 (Kd.R (Kd.int .i64) 2 wc w.heap.size (fun _ => True) u6 x6_1) ∧ Aside0 (wc.heap[gb497]? = some (.cells #[.int .i64 a0_0, (.slice A0_1 l0_1.length c0_1)] 26 (0, 0))) ∧ Aside0 (Below w.heap.size w wc))
        case first =>
          have H := HC12.out
          clear HC12
          by_cases c13 : (x6_1.length : Int) < a0_0
          · rw [if_pos c13] at H
            have c13b0 := decide_eq_true c13
            clear c13
            (first | rw [c13b0] | (simp only [i64_w, i32_w]; rw [c13b0]) | skip)
            obtain ⟨t505, A14, H⟩ := zb H
            by_cases c15 : t505 = true
            · subst c15
              have H1 : (spec_PlayRace.j1 k1 x5_1 x6_1 x7_1 x8_1 false a0_0 l0_1) = some (r1, r2) := by rw [if_pos rfl] at H; exact H
              clear H
              have H := H1
              clear H1
              have H' := Aside0.mk H
              clear H
              obtain ⟨Ao16, co16, eo16⟩ := Kd.R_slice HO_6.out
              subst eo16
              obtain ⟨hcz17_0, hcz17_1⟩ := zc2 BK497
              obtain ⟨hfz17_0, hfz17_1⟩ := zf2 BK497
              go_wp2_with (first | (go_at_call 37; (with_reducible refine (spec_l07Fills.calls k1 a0_0 _ _ l0_1 x7_1 true _ ?side1 ?side2 A14.out).mono ?_); (case side1 => repeat (first | exact (Kd.C_below HR0_1.out HB.out) | (with_reducible refine Kd.C_alloc ?_ _) | (with_reducible refine Kd.C_drewN ?_ _) | (with_reducible refine Kd.C_drew ?_))); (case side2 => exact HC0_1.out); rintro e w18 ⟨rfl, hb⟩; refine zA4 (Kd.R_below (zR HO_5.out) hb) (Kd.R_below (zR HO_6.out) hb) (blk_below (g := gb497) (o := .cells #[.int .i64 a0_0, .slice A0_1 l0_1.length c0_1] 26 (0, 0)) (zB BK497.out) hb) (below_step (zH1 HB.out GE497.out) hb) ?_; clear HO_5 HO_6 BK497 HB; intro HO_5 HO_6 BK497 HB; (try clear hb); (try clear hb2); (try clear hk); (try clear hi)))
              go_meet
              case rel => exact ⟨_, (false), (zF), H', ⟨by have := HK1.out; first | omega | exact Nat.le_refl _⟩, ⟨zR HO_5.out⟩, ⟨zR HO_6.out⟩, ⟨zB BK497.out⟩, ⟨zH1 HB.out GE497.out⟩⟩
            · replace c15 := Bool.eq_false_iff.mpr c15
              subst c15
              have H1 : ((spec_l07Fills.f k1 a0_0 l0_1 x8_1).bind fun t506 => (spec_PlayRace.j1 k1 x5_1 x6_1 x7_1 x8_1 (!t506) a0_0 l0_1)) = some (r1, r2) := by rw [if_neg (show ¬ (false = true) by decide)] at H; exact H
              clear H
              have H := H1
              clear H1
              obtain ⟨t506, A19, H⟩ := zb H
              have H' := Aside0.mk H
              clear H
              obtain ⟨Ao20, co20, eo20⟩ := Kd.R_slice HO_6.out
              subst eo20
              obtain ⟨hcz21_0, hcz21_1⟩ := zc2 BK497
              obtain ⟨hfz21_0, hfz21_1⟩ := zf2 BK497
              go_wp2_with (first | (go_at_call 37; (with_reducible refine (spec_l07Fills.calls k1 a0_0 _ _ l0_1 x7_1 false _ ?side1 ?side2 A14.out).mono ?_); (case side1 => repeat (first | exact (Kd.C_below HR0_1.out HB.out) | (with_reducible refine Kd.C_alloc ?_ _) | (with_reducible refine Kd.C_drewN ?_ _) | (with_reducible refine Kd.C_drew ?_))); (case side2 => exact HC0_1.out); rintro e w22 ⟨rfl, hb⟩; refine zA4 (Kd.R_below (zR HO_5.out) hb) (Kd.R_below (zR HO_6.out) hb) (blk_below (g := gb497) (o := .cells #[.int .i64 a0_0, .slice A0_1 l0_1.length c0_1] 26 (0, 0)) (zB BK497.out) hb) (below_step (zH1 HB.out GE497.out) hb) ?_; clear HO_5 HO_6 BK497 HB; intro HO_5 HO_6 BK497 HB; (try clear hb); (try clear hb2); (try clear hk); (try clear hi); obtain ⟨hcz23_0, hcz23_1⟩ := zc2 BK497; obtain ⟨hfz23_0, hfz23_1⟩ := zf2 BK497) | (go_at_call 37; (with_reducible refine (spec_l07Fills.calls k1 a0_0 _ _ l0_1 x8_1 t506 _ ?side1 ?side2 A19.out).mono ?_); (case side1 => repeat (first | exact (Kd.C_below HR0_1.out HB.out) | (with_reducible refine Kd.C_alloc ?_ _) | (with_reducible refine Kd.C_drewN ?_ _) | (with_reducible refine Kd.C_drew ?_))); (case side2 => exact HC0_1.out); rintro e w24 ⟨rfl, hb⟩; refine zA4 (Kd.R_below (zR HO_5.out) hb) (Kd.R_below (zR HO_6.out) hb) (blk_below (g := gb497) (o := .cells #[.int .i64 a0_0, .slice A0_1 l0_1.length c0_1] 26 (0, 0)) (zB BK497.out) hb) (below_step (zH1 HB.out GE497.out) hb) ?_; clear HO_5 HO_6 BK497 HB; intro HO_5 HO_6 BK497 HB; (try clear hb); (try clear hb2); (try clear hk); (try clear hi)))
              go_meet
              case rel => exact ⟨_, (!t506), (zF), H', ⟨by have := HK1.out; first | omega | exact Nat.le_refl _⟩, ⟨zR HO_5.out⟩, ⟨zR HO_6.out⟩, ⟨zB BK497.out⟩, ⟨zH1 HB.out GE497.out⟩⟩
          · rw [if_neg c13] at H
            have c13b0 := decide_eq_false c13
            clear c13
            (first | rw [c13b0] | (simp only [i64_w, i32_w]; rw [c13b0]) | skip)
            have H' := Aside0.mk H
            clear H
            obtain ⟨Ao25, co25, eo25⟩ := Kd.R_slice HO_6.out
            subst eo25
            obtain ⟨hcz26_0, hcz26_1⟩ := zc2 BK497
            obtain ⟨hfz26_0, hfz26_1⟩ := zf2 BK497
            go_wp2
            go_meet
            case rel => exact ⟨_, (false), (zF), H', ⟨by have := HK1.out; first | omega | exact Nat.le_refl _⟩, ⟨zR HO_5.out⟩, ⟨zR HO_6.out⟩, ⟨zB BK497.out⟩, ⟨zH1 HB.out GE497.out⟩⟩
        case rest =>
          clear HC12
          try clear c1
          try clear c2
          try clear p2
          try clear c3
          try clear c3b0
          try clear c3b1
          try clear c13
          try clear c13b0
          try clear c15
          try clear c25
          try clear hcz17_0
          try clear hcz17_1
          try clear hcz21_0
          try clear hcz21_1
          try clear hcz23_0
          try clear hcz23_1
          try clear hcz26_0
          try clear hcz26_1
          try clear hcz6_0
          try clear hcz6_1
          try clear hcz8_0
          try clear hcz8_1
          try clear hfz17_0
          try clear hfz17_1
          try clear hfz21_0
          try clear hfz21_1
          try clear hfz23_0
          try clear hfz23_1
          try clear hfz26_0
          try clear hfz26_1
          try clear hfz6_0
          try clear hfz6_1
          try clear hfz8_0
          try clear hfz8_1
          try clear p2
          obtain ⟨kq, x34_11, rfl, HA, HJ11, HO_5, HO_6, BK497, HB⟩ := hcut
          cases kq with
          | zero => exact absurd HA.out (by simp [spec_PlayRace.j1])
          | succ kj11 =>
            have H := HA.out
            clear HA
            simp only [spec_PlayRace.j1] at H
            by_cases c27 : x34_11 = true
            · subst c27
              have H1 : ((spec_l07Best.f kj11 a0_0 l0_1 x7_1 x8_1 x5_1).bind fun bt507 => (if 0 < (bt507.1.length : Int) then (if ((x6_1.length : Int) % 2) = 0 then (if 0 ≤ (IntKind.u64.wrap (rd bt507.1 0)) then (if x6_1.length < 17592186044416 then (spec_PlayRace.l0 kj11 bt507.2 (x6_1 ++ [rd bt507.1 0]) (Go.bits .or .i64 x7_1 (shl .i64 1 (IntKind.u64.wrap (rd bt507.1 0)))) x8_1 a0_0 l0_1) else (none)) else (none)) else (if 0 ≤ (IntKind.u64.wrap (rd bt507.1 0)) then (if x6_1.length < 17592186044416 then (spec_PlayRace.l0 kj11 bt507.2 (x6_1 ++ [rd bt507.1 0]) x7_1 (Go.bits .or .i64 x8_1 (shl .i64 1 (IntKind.u64.wrap (rd bt507.1 0)))) a0_0 l0_1) else (none)) else (none))) else (none))) = some (r1, r2) := by rw [if_pos rfl] at H; exact H
              clear H
              have H := H1
              clear H1
              obtain ⟨⟨t507, t510⟩, A28, H⟩ := zb H; (try dsimp only at H)
              by_cases c29 : 0 < (t507.length : Int)
              · rw [if_pos c29] at H
                have c29b0 := decide_eq_true c29
                have c29b1 : decide (0 < t507.length) = true := decide_eq_true (by omega)
                clear c29
                by_cases c30 : ((x6_1.length : Int) % 2) = 0
                · rw [if_pos c30] at H
                  have c30b0 := zq1 c30
                  have c30b1 := zq2 c30
                  clear c30
                  obtain ⟨ji31, hji31⟩ := zj (IntKind.u64.wrap (rd t507 0))
                  (first | rw [hji31] at H | simp only [hji31] at H)
                  (try rw [hji31] at A28)
                  by_cases c32 : 0 ≤ (ji31)
                  · rw [if_pos c32] at H
                    have c32b0 := eq_true c32
                    have c32b1 := decide_eq_true c32
                    clear c32
                    obtain ⟨ji33, hji33⟩ := zj (shl .i64 1 (ji31))
                    (first | rw [hji33] at H | simp only [hji33] at H)
                    (try rw [hji33] at A28)
                    have hji33_ : (IntKind.i64.wrap (1 * 2 ^ min (ji31).toNat 64)) = ji33 := hji33
                    have hji33z : (ji31) ≤ 64 → (IntKind.i64.wrap (1 * 2 ^ (ji31).toNat)) = ji33 := shl_small hji33
                    have hji33u : (IntKind.i64.wrap (2 ^ min (ji31).toNat 64)) = ji33 := by have h_ := hji33_; rw [Int.one_mul] at h_; exact h_
                    have hji33v : (ji31) ≤ 64 → (IntKind.i64.wrap (2 ^ (ji31).toNat)) = ji33 := fun hle_ => by have h_ := hji33z hle_; rw [Int.one_mul] at h_; exact h_
                    have hji33y : (wrap64 (1 * 2 ^ min (ji31).toNat 64)) = ji33 := (i64_w _).symm.trans hji33_
                    have hji33x : (ji31) ≤ 64 → (wrap64 (1 * 2 ^ (ji31).toNat)) = ji33 := fun h_ => (i64_w _).symm.trans (hji33z h_)
                    by_cases c34 : x6_1.length < 17592186044416
                    · rw [if_pos c34] at H
                      have LMc34 := Aside0.mk c34
                      clear c34
                      obtain ⟨y512, hy512⟩ : ∃ y_ : List Int, y_ = (x6_1 ++ [rd t507 0]) := ⟨_, rfl⟩
                      replace H : (spec_PlayRace.l0 kj11 t510 y512 (Go.bits .or .i64 x7_1 (ji33)) x8_1 a0_0 l0_1) = some (r1, r2) := by first | (rw [hy512]; with_reducible exact H) | (have H2_ := (Option.bind_some _ _).symm.trans H; rw [hy512]; with_reducible exact H2_) | (have H2_ := (Option.bind_some _ _).symm.trans H; with_reducible exact H2_) | with_reducible exact H | (rw [hy512]; exact H) | exact H
                      have Ny512 := Aside0.mk hy512
                      clear hy512
                      have H' := Aside0.mk H
                      clear H
                      obtain ⟨hcz35_0, hcz35_1⟩ := zc2 BK497
                      obtain ⟨hfz35_0, hfz35_1⟩ := zf2 BK497
                      obtain ⟨Ao36, co36, eo36⟩ := Kd.R_slice HO_5.out
                      subst eo36
                      go_wp2_with (first | ((with_reducible refine gate_callee (f := 27) rfl ?_); refine goesL_ (some 39) rfl rfl Try.func27 (by kernel_rfl) rfl #[.agg #[.int .i64 a0_0, .slice A0_1 l0_1.length c0_1], .int .i64 x7_1, .int .i64 x8_1, .slice Ao36 x5_1.length co36] rfl zM ?_; (with_reducible refine (spec_l07Best.calls kj11 a0_0 _ _ l0_1 x7_1 x8_1 (fun k_ => some k_ = (.slice Ao36 x5_1.length co36 : Value).ownBlock) (.slice Ao36 x5_1.length co36) x5_1 t507 t510 w _ ?side1 ?side2 ?side3 ?side4 A28.out).mono ?_); (case side1 => exact zH1 HB.out GE497.out); (case side2 => exact Kd.C_kept_came (Kd.heap_int .i64) HR0_1.out (zH1 HB.out GE497.out) (fun k_ hs_ => (fun e_ => Kd.R_base HO_5.out k_ e_.symm) hs_)); (case side3 => exact HC0_1.out); (case side4 => exact Kd.R_tight rfl HO_5.out); rintro e w37 ⟨v508, rfl, ho0, hy0, hb, hkp⟩; refine ⟨_, rfl, ?_⟩; refine zA5 (Kd.R_reok rfl hy0 (fun k_ e_ => HO_5.out.1 k_ e_)) (Kd.R_mono (ok' := fun k_ => some k_ ≠ (v508 : Value).ownBlock) (Kd.R_keptB ((Kd.R_apart' HO_6.out (Kd.R_typed HO_5.out) (by decide))) hkp (fun k_ hk_ hs_ => (hk_.2) hs_)) (fun k_ hk_ => fun e_ => Or.elim (ho0.1 k_ e_.symm) (fun hs_ => hk_.2.1 hs_) (fun hn_ => Nat.not_le.2 hk_.2.2 hn_))) (blk_kept (zB BK497.out) hkp (fun hs_ => (fun e_ => (Kd.R_ne HO_5.out BK497.out (by decide)) e_) hs_)) (Kd.R_mono (ok' := fun k_ => some k_ ≠ (u6 : Value).ownBlock) ho0 (fun k_ hk_ => Or.elim hk_ (fun hs_ => fun e_ => ((((Kd.R_apart' HO_6.out (Kd.R_typed HO_5.out) (by decide))).1 k_ e_.symm).2) hs_) (fun hn_ => (Kd.fresh' (Kd.R_lt (zR HO_6.out)) k_ hn_)))) (hb) ?_; clear HO_5 HO_6 BK497 HB; intro HO_5 HO_6 BK497 HO509 HB; (try clear hb); (try clear hkp); (try clear ho0); (try clear hy0); obtain ⟨Ao38, co38, eo38⟩ := Kd.R_slice HO509.out; subst eo38; have p511 : 0 ≤ (0 : Int) := (by omega); have q511 : 0 < (t507.length : Int) := of_decide_eq_true (by first | (with_reducible assumption) | assumption); obtain ⟨ad511, e511, hx511_0⟩ := Kd.at_int (Kd.R_reads' HO509.out).2.2 0 p511 q511; cases e511; have qi511 : (0 < t507.length) = True := eq_true (by omega); (try rw [show ((0 : Int)).toNat = 0 from rfl] at hx511_0); (try rw [Addr.add_zero'] at hx511_0); replace p511 := eq_true p511; replace q511 := eq_true q511; obtain ⟨Ao39, co39, eo39⟩ := Kd.R_slice HO_6.out; subst eo39) | ((with_reducible refine gate_builtin (b := .append) (xs := #[.tmp 56, .tmp 58]) rfl ?_); at_builtin; refine Kd.R_append (Kd.int .i64) (w0 := w) w.heap.size rfl (.tmp 56) (.tmp 58) 24 2 (.int .i64 0) 8 rfl Try.underlying24 info2 rfl (by decide) (by omega) (.slice Ao39 x6_1.length co39) x6_1 (rd t507 0) [.int .i64 (rd t507 0)] (fun k_ => some k_ ≠ (.slice (some ad511) t507.length co38 : Value).ownBlock) (fun _ => False) rfl rfl ?aP (fun _ hk => hk.elim) ?aF ?aO ?aB ?aS ?aL ?_; (case aP => exact rfl); (case aB => exact (zH1 HB.out GE497.out)); (case aF => exact (fun k_ hk => Kd.fresh' (Kd.R_lt (zR HO509.out)) k_ hk)); (case aO => exact (zR HO_6.out)); (case aS => exact (below_size (zH1 HB.out GE497.out))); (case aL => have := LMc34.out; omega); intro v513 w40 ho hb hg hat; rw [← Ny512.out] at ho; refine zA5 (Kd.R_over' (zR HO_5.out) (Kd.R_typed (zR HO_6.out)) (by decide) hg) (blk_grown (g := gb497) (o := .cells #[.int .i64 a0_0, .slice A0_1 l0_1.length c0_1] 26 (0, 0)) (zB BK497.out) hg (Kd.R_ne HO_6.out BK497.out (by decide))) (Kd.R_after (ok := (fun _ => True)) (zRm HO509.out (fun _ hk => ⟨trivial, hk⟩)) hg hat) (hb) (ho) ?_; clear HO_5 BK497 HO509 HB HO_6; intro HO_5 BK497 HO509 HB HO514; clear ho hb hg hat))
                      go_roundg kj11
                      case measure => have := HK1.out; have := HJ11.out; omega
                      case rel => exact ⟨(t510), (y512), (Go.bits .or .i64 x7_1 (ji33)), (x8_1), (by first | rfl | (simp; done) | (simp only [← hji33] <;> (first | rfl | simp)) | (simp [*]; done)), (zF), H', ⟨by have := HK1.out; have := HJ11.out; omega⟩, ⟨zR HO_5.out⟩, ⟨zRm HO514.out (fun _ hk => trivial)⟩, ⟨zB BK497.out⟩, ⟨zH1 HB.out GE497.out⟩⟩
                    · rw [if_neg c34] at H
                      exact absurd H (by simp)
                  · rw [if_neg c32] at H
                    exact absurd H (by simp)
                · rw [if_neg c30] at H
                  have c30b0 := zq3 c30
                  have c30b1 := zq4 c30
                  obtain ⟨ji41, hji41⟩ := zj (IntKind.u64.wrap (rd t507 0))
                  (first | rw [hji41] at H | simp only [hji41] at H)
                  (try rw [hji41] at A28)
                  by_cases c42 : 0 ≤ (ji41)
                  · rw [if_pos c42] at H
                    have c42b0 := eq_true c42
                    have c42b1 := decide_eq_true c42
                    clear c42
                    obtain ⟨ji43, hji43⟩ := zj (shl .i64 1 (ji41))
                    (first | rw [hji43] at H | simp only [hji43] at H)
                    (try rw [hji43] at A28)
                    have hji43_ : (IntKind.i64.wrap (1 * 2 ^ min (ji41).toNat 64)) = ji43 := hji43
                    have hji43z : (ji41) ≤ 64 → (IntKind.i64.wrap (1 * 2 ^ (ji41).toNat)) = ji43 := shl_small hji43
                    have hji43u : (IntKind.i64.wrap (2 ^ min (ji41).toNat 64)) = ji43 := by have h_ := hji43_; rw [Int.one_mul] at h_; exact h_
                    have hji43v : (ji41) ≤ 64 → (IntKind.i64.wrap (2 ^ (ji41).toNat)) = ji43 := fun hle_ => by have h_ := hji43z hle_; rw [Int.one_mul] at h_; exact h_
                    have hji43y : (wrap64 (1 * 2 ^ min (ji41).toNat 64)) = ji43 := (i64_w _).symm.trans hji43_
                    have hji43x : (ji41) ≤ 64 → (wrap64 (1 * 2 ^ (ji41).toNat)) = ji43 := fun h_ => (i64_w _).symm.trans (hji43z h_)
                    by_cases c44 : x6_1.length < 17592186044416
                    · rw [if_pos c44] at H
                      have LMc44 := Aside0.mk c44
                      clear c44
                      obtain ⟨y515, hy515⟩ : ∃ y_ : List Int, y_ = (x6_1 ++ [rd t507 0]) := ⟨_, rfl⟩
                      replace H : (spec_PlayRace.l0 kj11 t510 y515 x7_1 (Go.bits .or .i64 x8_1 (ji43)) a0_0 l0_1) = some (r1, r2) := by first | (rw [hy515]; with_reducible exact H) | (have H2_ := (Option.bind_some _ _).symm.trans H; rw [hy515]; with_reducible exact H2_) | (have H2_ := (Option.bind_some _ _).symm.trans H; with_reducible exact H2_) | with_reducible exact H | (rw [hy515]; exact H) | exact H
                      have Ny515 := Aside0.mk hy515
                      clear hy515
                      have H' := Aside0.mk H
                      clear H
                      obtain ⟨hcz45_0, hcz45_1⟩ := zc2 BK497
                      obtain ⟨hfz45_0, hfz45_1⟩ := zf2 BK497
                      obtain ⟨Ao46, co46, eo46⟩ := Kd.R_slice HO_5.out
                      subst eo46
                      go_wp2_with (first | ((with_reducible refine gate_callee (f := 27) rfl ?_); refine goesL_ (some 39) rfl rfl Try.func27 (by kernel_rfl) rfl #[.agg #[.int .i64 a0_0, .slice A0_1 l0_1.length c0_1], .int .i64 x7_1, .int .i64 x8_1, .slice Ao46 x5_1.length co46] rfl zM ?_; (with_reducible refine (spec_l07Best.calls kj11 a0_0 _ _ l0_1 x7_1 x8_1 (fun k_ => some k_ = (.slice Ao46 x5_1.length co46 : Value).ownBlock) (.slice Ao46 x5_1.length co46) x5_1 t507 t510 w _ ?side1 ?side2 ?side3 ?side4 A28.out).mono ?_); (case side1 => exact zH1 HB.out GE497.out); (case side2 => exact Kd.C_kept_came (Kd.heap_int .i64) HR0_1.out (zH1 HB.out GE497.out) (fun k_ hs_ => (fun e_ => Kd.R_base HO_5.out k_ e_.symm) hs_)); (case side3 => exact HC0_1.out); (case side4 => exact Kd.R_tight rfl HO_5.out); rintro e w47 ⟨v508, rfl, ho0, hy0, hb, hkp⟩; refine ⟨_, rfl, ?_⟩; refine zA5 (Kd.R_reok rfl hy0 (fun k_ e_ => HO_5.out.1 k_ e_)) (Kd.R_mono (ok' := fun k_ => some k_ ≠ (v508 : Value).ownBlock) (Kd.R_keptB ((Kd.R_apart' HO_6.out (Kd.R_typed HO_5.out) (by decide))) hkp (fun k_ hk_ hs_ => (hk_.2) hs_)) (fun k_ hk_ => fun e_ => Or.elim (ho0.1 k_ e_.symm) (fun hs_ => hk_.2.1 hs_) (fun hn_ => Nat.not_le.2 hk_.2.2 hn_))) (blk_kept (zB BK497.out) hkp (fun hs_ => (fun e_ => (Kd.R_ne HO_5.out BK497.out (by decide)) e_) hs_)) (Kd.R_mono (ok' := fun k_ => some k_ ≠ (u6 : Value).ownBlock) ho0 (fun k_ hk_ => Or.elim hk_ (fun hs_ => fun e_ => ((((Kd.R_apart' HO_6.out (Kd.R_typed HO_5.out) (by decide))).1 k_ e_.symm).2) hs_) (fun hn_ => (Kd.fresh' (Kd.R_lt (zR HO_6.out)) k_ hn_)))) (hb) ?_; clear HO_5 HO_6 BK497 HB; intro HO_5 HO_6 BK497 HO509 HB; (try clear hb); (try clear hkp); (try clear ho0); (try clear hy0); obtain ⟨Ao48, co48, eo48⟩ := Kd.R_slice HO509.out; subst eo48; have p511 : 0 ≤ (0 : Int) := (by omega); have q511 : 0 < (t507.length : Int) := of_decide_eq_true (by first | (with_reducible assumption) | assumption); obtain ⟨ad511, e511, hx511_0⟩ := Kd.at_int (Kd.R_reads' HO509.out).2.2 0 p511 q511; cases e511; have qi511 : (0 < t507.length) = True := eq_true (by omega); (try rw [show ((0 : Int)).toNat = 0 from rfl] at hx511_0); (try rw [Addr.add_zero'] at hx511_0); replace p511 := eq_true p511; replace q511 := eq_true q511; obtain ⟨Ao49, co49, eo49⟩ := Kd.R_slice HO_6.out; subst eo49) | ((with_reducible refine gate_builtin (b := .append) (xs := #[.tmp 56, .tmp 58]) rfl ?_); at_builtin; refine Kd.R_append (Kd.int .i64) (w0 := w) w.heap.size rfl (.tmp 56) (.tmp 58) 24 2 (.int .i64 0) 8 rfl Try.underlying24 info2 rfl (by decide) (by omega) (.slice Ao49 x6_1.length co49) x6_1 (rd t507 0) [.int .i64 (rd t507 0)] (fun k_ => some k_ ≠ (.slice (some ad511) t507.length co48 : Value).ownBlock) (fun _ => False) rfl rfl ?aP (fun _ hk => hk.elim) ?aF ?aO ?aB ?aS ?aL ?_; (case aP => exact rfl); (case aB => exact (zH1 HB.out GE497.out)); (case aF => exact (fun k_ hk => Kd.fresh' (Kd.R_lt (zR HO509.out)) k_ hk)); (case aO => exact (zR HO_6.out)); (case aS => exact (below_size (zH1 HB.out GE497.out))); (case aL => have := LMc44.out; omega); intro v516 w50 ho hb hg hat; rw [← Ny515.out] at ho; refine zA5 (Kd.R_over' (zR HO_5.out) (Kd.R_typed (zR HO_6.out)) (by decide) hg) (blk_grown (g := gb497) (o := .cells #[.int .i64 a0_0, .slice A0_1 l0_1.length c0_1] 26 (0, 0)) (zB BK497.out) hg (Kd.R_ne HO_6.out BK497.out (by decide))) (Kd.R_after (ok := (fun _ => True)) (zRm HO509.out (fun _ hk => ⟨trivial, hk⟩)) hg hat) (hb) (ho) ?_; clear HO_5 BK497 HO509 HB HO_6; intro HO_5 BK497 HO509 HB HO517; clear ho hb hg hat))
                      go_roundg kj11
                      case measure => have := HK1.out; have := HJ11.out; omega
                      case rel => exact ⟨(t510), (y515), (x7_1), (Go.bits .or .i64 x8_1 (ji43)), (zF), (by first | rfl | (simp; done) | (simp only [← hji43] <;> (first | rfl | simp)) | (simp [*]; done)), H', ⟨by have := HK1.out; have := HJ11.out; omega⟩, ⟨zR HO_5.out⟩, ⟨zRm HO517.out (fun _ hk => trivial)⟩, ⟨zB BK497.out⟩, ⟨zH1 HB.out GE497.out⟩⟩
                    · rw [if_neg c44] at H
                      exact absurd H (by simp)
                  · rw [if_neg c42] at H
                    exact absurd H (by simp)
              · rw [if_neg c29] at H
                exact absurd H (by simp)
            · replace c27 := Bool.eq_false_iff.mpr c27
              subst c27
              have H1 : (some (x6_1, 0)) = some (r1, r2) := by rw [if_neg (show ¬ (false = true) by decide)] at H; exact H
              clear H
              have H := H1
              clear H1
              simp only [Option.some.injEq, Prod.mk.injEq] at H
              obtain ⟨rfl, rfl⟩ := H
              go_wp2
              go_ret2
              exact ⟨_, zE, by (with_reducible repeat (first | apply Kd.R_alloc | apply Kd.R_drewN | apply Kd.R_drew)); exact HO_6.out, zH1 HB.out GE497.out⟩
  · rw [if_neg c3] at H
    have c3b0 := zq3 c3
    have c3b1 := zq4 c3
    simp only [Option.some.injEq, Prod.mk.injEq] at H
    obtain ⟨rfl, rfl⟩ := H
    go_enter Try.func15, Try.ntmps15
    go_wp2_with (first | ((with_reducible refine gate_dst (N := 1) rfl ?_); refine zX 1 #[.int .i64 a0_0, .slice A0_1 l0_1.length c0_1] 26 ?_; intro gb497 hg w51 hbox hb; refine zA4 (below_step (zH HB.out) hb) (hbox) ((zS hg (below_size (zH HB.out)) : w.heap.size ≤ gb497)) ((zS hg (below_size (zH HB.out)) : w.heap.size ≤ gb497)) ?_; clear HB; intro HB BK497 GW497 GE497; clear hb hbox hg; obtain ⟨hcz52_0, hcz52_1⟩ := zc2 BK497; obtain ⟨hfz52_0, hfz52_1⟩ := zf2 BK497) | ((with_reducible refine gate_callee (f := 36) rfl ?_); refine goesL_ (some 11) rfl rfl Try.func36 (by kernel_rfl) rfl #[.agg #[.int .i64 a0_0, .slice A0_1 l0_1.length c0_1]] rfl zM ?_; (with_reducible refine (spec_l07Small.calls k a0_0 _ _ l0_1 t498 _ ?side1 ?side2 A2.out).mono ?_); (case side1 => repeat (first | exact (Kd.C_below HR0_1.out HB.out) | (with_reducible refine Kd.C_alloc ?_ _) | (with_reducible refine Kd.C_drewN ?_ _) | (with_reducible refine Kd.C_drew ?_))); (case side2 => exact HC0_1.out); rintro e w53 ⟨rfl, hb⟩; refine ⟨_, rfl, ?_⟩; refine zA2 (blk_below (g := gb497) (o := .cells #[.int .i64 a0_0, .slice A0_1 l0_1.length c0_1] 26 (0, 0)) (zB BK497.out) hb) (below_step (zH1 HB.out GE497.out) hb) ?_; clear BK497 HB; intro BK497 HB; (try clear hb); (try clear hb2); (try clear hk); (try clear hi)))
    go_ret2
    exact ⟨_, zE, by first | exact Kd.R_nil _ _ _ _ _ | exact Kd.N_nil _ _ _ _ _ | exact Kd.V_nil _ _ _ _ _ | exact Kd.Q_nil _ _ _ _ _ | exact Kd.S_nil _ _ _ _ _, zH1 HB.out GE497.out⟩

end Go.Proofs.Ytbmkhdeeengbmaa.Q
