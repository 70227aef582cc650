-- Written by a program of this session (wip/tools/px.sh) over the seat's translation; Lean checks it.
import Derived.Test.YtbmkhdeeengbmaaQ0
import Derived.Test.YtbmkhdeeengbmaaSq
import Derived.Test.YtbmkhdeeengbmaaQ1
import Derived.Test.YtbmkhdeeengbmaaQ3
import Derived.Test.YtbmkhdeeengbmaaQ4
import Derived.Test.YtbmkhdeeengbmaaOutNodes
import Derived.Test.YtbmkhdeeengbmaaSpecBehind
namespace Go.Proofs.Ytbmkhdeeengbmaa.Q
open Go.RowKit Go.Proofs.YtbmkhdeeengbmaaW.PrintWords Go.Proofs.YtbmkhdeeengbmaaW.PrintLast Go.Proofs.YtbmkhdeeengbmaaW.PrintMore
attribute [local go_sem] max2_int min2_int max_two min_two max_three min_three max_four min_four   -- for this text's walks alone
set_option linter.unusedVariables false
set_option linter.unusedSimpArgs false

/-! ### impl_nodesOf: function 56 -/
def impl_nodesOf.f (a0 : Int) : Option (List Int) := (choose_nodesOf.f 16 a0).bind fun t351 => (some t351)
set_option maxHeartbeats 8000000 in
set_option maxRecDepth 100000 in
theorem impl_nodesOf.calls (a0 : Int) (r : List Int) (w : World) (h : impl_nodesOf.f a0 = some r) :
    Calls Try.prog 56 #[.int .i64 a0] w fun e w' => ∃ v0_ : Value, e = .returned (v0_) ∧ Kd.R (Kd.int .i64) 2 w' w.heap.size (fun _ => True) v0_ r ∧ Below w.heap.size w w' := by
  have HB := Aside0.mk (Below.refl w.heap.size w)
  have H : ((choose_nodesOf.f 16 a0).bind fun t351 => (some t351)) = some r := h
  clear h
  obtain ⟨t351, A2, H⟩ := zb H
  obtain rfl := Option.some.inj H
  go_enter Try.func56, Try.ntmps56
  go_wp2_with (first | ((with_reducible refine gate_dst (N := 1) rfl ?_); refine zX 1 #[.int .i64 a0] 2 ?_; intro gb350 hg w3 hbox hb; refine zA4 (below_step (zH HB.out) hb) (hbox) ((zS hg (below_size (zH HB.out)) : w.heap.size ≤ gb350)) ((zS hg (below_size (zH HB.out)) : w.heap.size ≤ gb350)) ?_; clear HB; intro HB BK350 GW350 GE350; clear hb hbox hg) | ((with_reducible refine gate_callee (f := 62) rfl ?_); refine goesL_ (some 4) rfl rfl Try.func62 (by kernel_rfl) rfl #[.int .i64 16, .func (.func 63) #[] #[.pointer (some ⟨gb350, 0, none⟩)]] rfl zM ?_; (with_reducible refine (choose_nodesOf.calls 16 gb350 a0 t351 _ ?side1 A2.out).mono ?_); (case side1 => exact (zB BK350.out)); rintro e w4 ⟨v352, rfl, ho0, hb⟩; refine ⟨_, rfl, ?_⟩; refine zA3 (Kd.R_lower (Kd.R_newB ho0 (g := gb350) (o := .cells #[.int .i64 a0] 2 (0, 0)) (zB BK350.out)) (below_size (zH1 HB.out GE350.out))) (blk_below (g := gb350) (o := .cells #[.int .i64 a0] 2 (0, 0)) (zB BK350.out) hb) (below_step (zH1 HB.out GE350.out) hb) ?_; clear BK350 HB; intro HO353 BK350 HB; (try clear hb); (try clear hb2); (try clear hk); (try clear hi); (try clear ho0)))
  go_ret
  exact ⟨_, zE, by (with_reducible repeat (first | apply Kd.R_alloc | apply Kd.R_drewN | apply Kd.R_drew)); exact Kd.R_mono HO353.out (fun _ hk => trivial), zH1 HB.out GE350.out⟩

/-! ### impl_Board_free: function 35 -/
def impl_Board_free.f (a0_0 : Int) (l0_1 : List Int) (a1 : Int) (a2 : Int) : Option (List Int) := if 0 ≤ a0_0 then ((impl_nodesOf.f (Go.bits .andNot .i64 (wrap64 ((shl .i64 1 a0_0) - 1)) (Go.bits .or .i64 a1 a2))).bind fun t355 => (some t355)) else (none)
set_option maxHeartbeats 8000000 in
set_option maxRecDepth 100000 in
theorem impl_Board_free.calls (a0_0 : Int) (A0_1 : Option Addr) (c0_1 : Nat) (l0_1 : List Int) (a1 : Int) (a2 : Int) (r : List Int) (w : World) (hr0_1 : Kd.C (Kd.int .i64) w A0_1 l0_1.length l0_1) (hc0_1 : l0_1.length ≤ c0_1) (h : impl_Board_free.f a0_0 l0_1 a1 a2 = some r) :
    Calls Try.prog 35 #[.agg #[.int .i64 a0_0, .slice A0_1 l0_1.length c0_1], .int .i64 a1, .int .i64 a2] w fun e w' => ∃ v0_ : Value, e = .returned (v0_) ∧ Kd.R (Kd.int .i64) 2 w' w.heap.size (fun _ => True) v0_ r ∧ Below w.heap.size w w' := by
  have hu26 := Try.underlying26
  have HR0_1 := Aside0.mk hr0_1
  have HC0_1 := Aside0.mk hc0_1
  clear hr0_1 hc0_1
  have HB := Aside0.mk (Below.refl w.heap.size w)
  have H : (if 0 ≤ a0_0 then ((impl_nodesOf.f (Go.bits .andNot .i64 (wrap64 ((shl .i64 1 a0_0) - 1)) (Go.bits .or .i64 a1 a2))).bind fun t355 => (some t355)) else (none)) = some r := h
  clear h
  by_cases c4 : 0 ≤ a0_0
  · rw [if_pos c4] at H
    have c4b0 := eq_true c4
    have c4b1 := decide_eq_true c4
    clear c4
    obtain ⟨ji5, hji5⟩ := zj (shl .i64 1 a0_0)
    (first | rw [hji5] at H | simp only [hji5] at H)
    have hji5_ : (IntKind.i64.wrap (1 * 2 ^ min a0_0.toNat 64)) = ji5 := hji5
    have hji5z : a0_0 ≤ 64 → (IntKind.i64.wrap (1 * 2 ^ a0_0.toNat)) = ji5 := shl_small hji5
    have hji5u : (IntKind.i64.wrap (2 ^ min a0_0.toNat 64)) = ji5 := by have h_ := hji5_; rw [Int.one_mul] at h_; exact h_
    have hji5v : a0_0 ≤ 64 → (IntKind.i64.wrap (2 ^ a0_0.toNat)) = ji5 := fun hle_ => by have h_ := hji5z hle_; rw [Int.one_mul] at h_; exact h_
    have hji5y : (wrap64 (1 * 2 ^ min a0_0.toNat 64)) = ji5 := (i64_w _).symm.trans hji5_
    have hji5x : a0_0 ≤ 64 → (wrap64 (1 * 2 ^ a0_0.toNat)) = ji5 := fun h_ => (i64_w _).symm.trans (hji5z h_)
    obtain ⟨t355, A6, H⟩ := zb H
    obtain rfl := Option.some.inj H
    go_enter Try.func35, Try.ntmps35
    go_wp2_with (first | ((with_reducible refine gate_dst (N := 3) rfl ?_); refine zX 3 #[.int .i64 a0_0, .slice A0_1 l0_1.length c0_1] 26 ?_; intro gb354 hg w7 hbox hb; refine zA4 (below_step (zH HB.out) hb) (hbox) ((zS hg (below_size (zH HB.out)) : w.heap.size ≤ gb354)) ((zS hg (below_size (zH HB.out)) : w.heap.size ≤ gb354)) ?_; clear HB; intro HB BK354 GW354 GE354; clear hb hbox hg; obtain ⟨hcz8_0, hcz8_1⟩ := zc2 BK354; obtain ⟨hfz8_0, hfz8_1⟩ := zf2 BK354) | ((with_reducible refine gate_callee (f := 56) rfl ?_); refine goesL_ (some 15) rfl rfl Try.func56 (by kernel_rfl) rfl #[.int .i64 (Go.bits .andNot .i64 (wrap64 ((ji5) - 1)) (Go.bits .or .i64 a1 a2))] rfl (zM1 hji5) ?_; (with_reducible refine (impl_nodesOf.calls (Go.bits .andNot .i64 (wrap64 ((ji5) - 1)) (Go.bits .or .i64 a1 a2)) t355 _ A6.out).mono ?_); rintro e w9 ⟨v356, rfl, ho0, hb⟩; refine ⟨_, rfl, ?_⟩; refine zA3 (Kd.R_lower ho0 (below_size (zH1 HB.out GE354.out))) (blk_below (g := gb354) (o := .cells #[.int .i64 a0_0, .slice A0_1 l0_1.length c0_1] 26 (0, 0)) (zB BK354.out) hb) (below_step (zH1 HB.out GE354.out) hb) ?_; clear BK354 HB; intro HO357 BK354 HB; (try clear hb); (try clear hb2); (try clear hk); (try clear hi); (try clear ho0)))
    go_ret
    exact ⟨_, by first | rfl | (simp [errW_none, errW_some] <;> rfl) | (simp only [← hji5]; first | rfl | (simp [errW_none, errW_some] <;> rfl)) | (simp [*, errW_none, errW_some] <;> rfl), by (with_reducible repeat (first | apply Kd.R_alloc | apply Kd.R_drewN | apply Kd.R_drew)); exact HO357.out, zH1 HB.out GE354.out⟩
  · rw [if_neg c4] at H
    exact absurd H (by simp)

/-! ### impl_raceCode: function 20 -/
def impl_raceCode.f (k : Nat) (a0_0 : Int) (l0_1 : List Int) (a1 : Int) (a2 : Int) : Option (Int) := (impl_stateCode.f k a0_0 l0_1 a1 a2).bind fun t387 => (if t387 = 0 then ((impl_Board_filled.f k a0_0 l0_1 a1).bind fun t388 => (if t388 = 0 then ((impl_Board_filled.f k a0_0 l0_1 a2).bind fun t389 => (if t389 = 0 then ((impl_Board_free.f a0_0 l0_1 a1 a2).bind fun t390 => ((impl_first.f k (([(⟨decide ((t390.length : Int) > 0), 5⟩ : S57), (⟨decide (a0_0 ≤ 9), 3⟩ : S57)] : List (S57)))).bind fun t396 => (some t396))) else ((impl_first.f k (([(⟨false, 5⟩ : S57), (⟨decide (a0_0 ≤ 9), 3⟩ : S57)] : List (S57)))).bind fun t400 => (some t400)))) else ((impl_first.f k (([(⟨false, 5⟩ : S57), (⟨decide (a0_0 ≤ 9), 3⟩ : S57)] : List (S57)))).bind fun t404 => (some t404)))) else (some t387))
theorem impl_raceCode.mono : ∀ a0 a1 a2 a3 k, LeO (impl_raceCode.f k a0 a1 a2 a3) (impl_raceCode.f (k + 1) a0 a1 a2 a3) := by
  intro a0 a1 a2 a3 k
  unfold impl_raceCode.f
  repeat' first
      | (with_reducible exact impl_Board_filled.mono _ _ _ _)
      | (with_reducible exact impl_first.mono _ _)
      | (with_reducible exact impl_stateCode.mono _ _ _ _ _)
      | (with_reducible exact LeO.refl _)
      | (with_reducible exact LeO.none _)
      | (with_reducible refine LeO.ite ?_ ?_)
      | (with_reducible refine LeO.bind ?_ (fun _ => ?_))
      | exact impl_Board_filled.mono _ _ _ _
      | exact impl_first.mono _ _
      | exact impl_stateCode.mono _ _ _ _ _
      | exact LeO.none _
      | refine LeO.ite ?_ ?_
      | refine LeO.bind ?_ (fun _ => ?_)
set_option maxHeartbeats 8000000 in
set_option maxRecDepth 100000 in
theorem impl_raceCode.calls (k : Nat) (a0_0 : Int) (A0_1 : Option Addr) (c0_1 : Nat) (l0_1 : List Int) (a1 : Int) (a2 : Int) (r : Int) (w : World) (hr0_1 : Kd.C (Kd.int .i64) w A0_1 l0_1.length l0_1) (hc0_1 : l0_1.length ≤ c0_1) (h : impl_raceCode.f k a0_0 l0_1 a1 a2 = some r) :
    Calls Try.prog 20 #[.agg #[.int .i64 a0_0, .slice A0_1 l0_1.length c0_1], .int .i64 a1, .int .i64 a2] w fun e w' => e = .returned (.int .i64 r) ∧ Below w.heap.size w w' := by
  have hu26 := Try.underlying26
  have hu57 := Try.underlying57
  have HR0_1 := Aside0.mk hr0_1
  have HC0_1 := Aside0.mk hc0_1
  clear hr0_1 hc0_1
  have HB := Aside0.mk (Below.refl w.heap.size w)
  have H : ((impl_stateCode.f k a0_0 l0_1 a1 a2).bind fun t387 => (if t387 = 0 then ((impl_Board_filled.f k a0_0 l0_1 a1).bind fun t388 => (if t388 = 0 then ((impl_Board_filled.f k a0_0 l0_1 a2).bind fun t389 => (if t389 = 0 then ((impl_Board_free.f a0_0 l0_1 a1 a2).bind fun t390 => ((impl_first.f k (([(⟨decide ((t390.length : Int) > 0), 5⟩ : S57), (⟨decide (a0_0 ≤ 9), 3⟩ : S57)] : List (S57)))).bind fun t396 => (some t396))) else ((impl_first.f k (([(⟨false, 5⟩ : S57), (⟨decide (a0_0 ≤ 9), 3⟩ : S57)] : List (S57)))).bind fun t400 => (some t400)))) else ((impl_first.f k (([(⟨false, 5⟩ : S57), (⟨decide (a0_0 ≤ 9), 3⟩ : S57)] : List (S57)))).bind fun t404 => (some t404)))) else (some t387))) = some r := h
  clear h
  obtain ⟨t387, A4, H⟩ := zb H
  by_cases c5 : t387 = 0
  · rw [if_pos c5] at H
    have c5b0 := zq1 c5
    have c5b1 := zq2 c5
    clear c5
    obtain ⟨t388, A6, H⟩ := zb H
    by_cases c7 : t388 = 0
    · rw [if_pos c7] at H
      have c7b0 := zq1 c7
      have c7b1 := zq2 c7
      clear c7
      obtain ⟨t389, A8, H⟩ := zb H
      by_cases c9 : t389 = 0
      · rw [if_pos c9] at H
        have c9b0 := zq1 c9
        have c9b1 := zq2 c9
        clear c9
        obtain ⟨t390, A10, H⟩ := zb H
        obtain ⟨y393, hy393⟩ : ∃ y_ : List (S57), y_ = (([(⟨decide ((t390.length : Int) > 0), 5⟩ : S57), (⟨decide (a0_0 ≤ 9), 3⟩ : S57)] : List (S57))) := ⟨_, rfl⟩
        replace H : ((impl_first.f k y393).bind fun t396 => (some t396)) = some r := by first | (rw [hy393]; with_reducible exact H) | (have H2_ := (Option.bind_some _ _).symm.trans H; rw [hy393]; with_reducible exact H2_) | (have H2_ := (Option.bind_some _ _).symm.trans H; with_reducible exact H2_) | with_reducible exact H | (rw [hy393]; exact H) | exact H
        have Ny393 := Aside0.mk hy393
        clear hy393
        obtain ⟨t396, A11, H⟩ := zb H
        obtain rfl := Option.some.inj H
        go_enter Try.func20, Try.ntmps20
        go_wp2_with (first | ((with_reducible refine gate_dst (N := 3) rfl ?_); (try (refine gate_guard (by rfl) ?_; dsimp only)); refine zX 3 #[.int .i64 a0_0, .slice A0_1 l0_1.length c0_1] 26 ?_; intro gb386 hg w12 hbox hb; refine zA4 (below_step (zH HB.out) hb) (hbox) ((zS hg (below_size (zH HB.out)) : w.heap.size ≤ gb386)) ((zS hg (below_size (zH HB.out)) : w.heap.size ≤ gb386)) ?_; clear HB; intro HB BK386 GW386 GE386; clear hb hbox hg; obtain ⟨hcz13_0, hcz13_1⟩ := zc2 BK386; obtain ⟨hfz13_0, hfz13_1⟩ := zf2 BK386) | ((with_reducible refine gate_callee (f := 38) rfl ?_); refine goesL_ (some 12) rfl rfl Try.func38 (by kernel_rfl) rfl #[.agg #[.int .i64 a0_0, .slice A0_1 l0_1.length c0_1], .int .i64 a1, .int .i64 a2] rfl zM ?_; (with_reducible refine (impl_stateCode.calls k a0_0 _ _ l0_1 a1 a2 t387 _ ?side1 ?side2 A4.out).mono ?_); (case side1 => repeat (first | exact (Kd.C_below HR0_1.out HB.out) | (with_reducible refine Kd.C_alloc ?_ _) | (with_reducible refine Kd.C_drewN ?_ _) | (with_reducible refine Kd.C_drew ?_))); (case side2 => exact HC0_1.out); rintro e w14 ⟨rfl, hb⟩; refine ⟨_, rfl, ?_⟩; refine zA2 (blk_below (g := gb386) (o := .cells #[.int .i64 a0_0, .slice A0_1 l0_1.length c0_1] 26 (0, 0)) (zB BK386.out) hb) (below_step (zH1 HB.out GE386.out) hb) ?_; clear BK386 HB; intro BK386 HB; (try clear hb); (try clear hb2); (try clear hk); (try clear hi); obtain ⟨hcz15_0, hcz15_1⟩ := zc2 BK386; obtain ⟨hfz15_0, hfz15_1⟩ := zf2 BK386) | ((with_reducible refine gate_callee (f := 34) rfl ?_); refine goesL_ (some 18) rfl rfl Try.func34 (by kernel_rfl) rfl #[.agg #[.int .i64 a0_0, .slice A0_1 l0_1.length c0_1], .int .i64 a1] rfl zM ?_; (with_reducible refine (impl_Board_filled.calls k a0_0 _ _ l0_1 a1 t388 _ ?side1 ?side2 A6.out).mono ?_); (case side1 => repeat (first | exact (Kd.C_below HR0_1.out HB.out) | (with_reducible refine Kd.C_alloc ?_ _) | (with_reducible refine Kd.C_drewN ?_ _) | (with_reducible refine Kd.C_drew ?_))); (case side2 => exact HC0_1.out); rintro e w16 ⟨rfl, hb⟩; refine ⟨_, rfl, ?_⟩; refine zA2 (blk_below (g := gb386) (o := .cells #[.int .i64 a0_0, .slice A0_1 l0_1.length c0_1] 26 (0, 0)) (zB BK386.out) hb) (below_step (zH1 HB.out GE386.out) hb) ?_; clear BK386 HB; intro BK386 HB; (try clear hb); (try clear hb2); (try clear hk); (try clear hi); obtain ⟨hcz17_0, hcz17_1⟩ := zc2 BK386; obtain ⟨hfz17_0, hfz17_1⟩ := zf2 BK386) | (go_at_call 34; (with_reducible refine (impl_Board_filled.calls k a0_0 _ _ l0_1 a2 t389 _ ?side1 ?side2 A8.out).mono ?_); (case side1 => repeat (first | exact (Kd.C_below HR0_1.out HB.out) | (with_reducible refine Kd.C_alloc ?_ _) | (with_reducible refine Kd.C_drewN ?_ _) | (with_reducible refine Kd.C_drew ?_))); (case side2 => exact HC0_1.out); rintro e w18 ⟨rfl, hb⟩; refine zA2 (blk_below (g := gb386) (o := .cells #[.int .i64 a0_0, .slice A0_1 l0_1.length c0_1] 26 (0, 0)) (zB BK386.out) hb) (below_step (zH1 HB.out GE386.out) hb) ?_; clear BK386 HB; intro BK386 HB; (try clear hb); (try clear hb2); (try clear hk); (try clear hi); obtain ⟨hcz19_0, hcz19_1⟩ := zc2 BK386; obtain ⟨hfz19_0, hfz19_1⟩ := zf2 BK386) | (go_at_call 35; (with_reducible refine (impl_Board_free.calls a0_0 _ _ l0_1 a1 a2 t390 _ ?side1 ?side2 A10.out).mono ?_); (case side1 => repeat (first | exact (Kd.C_below HR0_1.out HB.out) | (with_reducible refine Kd.C_alloc ?_ _) | (with_reducible refine Kd.C_drewN ?_ _) | (with_reducible refine Kd.C_drew ?_))); (case side2 => exact HC0_1.out); rintro e w20 ⟨v391, rfl, ho0, hb⟩; refine zA3 (Kd.R_lower ho0 (below_size (zH1 HB.out GE386.out))) (blk_below (g := gb386) (o := .cells #[.int .i64 a0_0, .slice A0_1 l0_1.length c0_1] 26 (0, 0)) (zB BK386.out) hb) (below_step (zH1 HB.out GE386.out) hb) ?_; clear BK386 HB; intro HO392 BK386 HB; (try clear hb); (try clear hb2); (try clear hk); (try clear hi); (try clear ho0); obtain ⟨Ao21, co21, eo21⟩ := Kd.R_slice HO392.out; subst eo21; obtain ⟨hcz22_0, hcz22_1⟩ := zc2 BK386; obtain ⟨hfz22_0, hfz22_1⟩ := zf2 BK386) | ((with_reducible refine gate_dst (N := 40) rfl ?_); (try (refine gate_guard (by rfl) ?_; dsimp only)); refine Kd.R_lit k57 _ 57 ?hg (N := 40) ?hd (xs := ([(⟨decide ((t390.length : Int) > 0), 5⟩ : S57), (⟨decide (a0_0 ≤ 9), 3⟩ : S57)] : List (S57))) (inner := [.bool (decide ((t390.length : Int) > 0)), .int .i64 5, .bool (decide (a0_0 ≤ 9)), .int .i64 3]) (ok := fun _ => True) (okp := fun _ => True) ?hr ?hp (fun _ hk => hk) trivial (Below.refl _ _) (Nat.le_refl _) (by simp) ?_; (case hd => rfl); (case hg => rfl); (case hr => first | (go_simp; done) | (go_simp; rfl)); (case hp => exact (Reps.c2 (show Kd.M k57 _ _ _ (⟨decide ((t390.length : Int) > 0), 5⟩ : S57) [.bool (decide ((t390.length : Int) > 0)), .int .i64 5] from (k57_mkM _ _ _ (⟨decide ((t390.length : Int) > 0), 5⟩ : S57) )) (Reps.c2 (show Kd.M k57 _ _ _ (⟨decide (a0_0 ≤ 9), 3⟩ : S57) [.bool (decide (a0_0 ≤ 9)), .int .i64 3] from (k57_mkM _ _ _ (⟨decide (a0_0 ≤ 9), 3⟩ : S57) )) (Reps.none _ _)))); intro v394 w23 ho24 hb hg_ hnew_; clear hg_ hnew_; (first | rw [← Ny393.out] at ho24 | (simp only [Int.reduceToNat] at ho24; rw [← Ny393.out] at ho24)); refine zA4 (Kd.R_below (zR HO392.out) hb) (Kd.R_lower ho24 (below_size (zH1 HB.out GE386.out))) (blk_below (g := gb386) (o := .cells #[.int .i64 a0_0, .slice A0_1 l0_1.length c0_1] 26 (0, 0)) (zB BK386.out) hb) (below_step (zH1 HB.out GE386.out) hb) ?_; clear HO392 BK386 HB; intro HO392 HO395 BK386 HB; clear hb ho24; obtain ⟨Ao25, co25, eo25⟩ := Kd.R_slice HO395.out; subst eo25) | ((with_reducible refine gate_callee (f := 32) rfl ?_); refine goesL_ (some 41) rfl rfl Try.func32 (by kernel_rfl) rfl #[.slice Ao25 y393.length co25] rfl zM ?_; (with_reducible refine (impl_first.calls k _ _ y393 t396 _ ?side1 ?side2 A11.out).mono ?_); (case side1 => repeat (first | exact (Kd.R_reads' HO395.out).2.2 | (with_reducible refine Kd.C_alloc ?_ _) | (with_reducible refine Kd.C_drewN ?_ _) | (with_reducible refine Kd.C_drew ?_))); (case side2 => exact (Kd.R_reads' HO395.out).2.1); rintro e w26 ⟨rfl, hb⟩; refine ⟨_, rfl, ?_⟩; refine zA4 (Kd.R_below (zR HO392.out) hb) (Kd.R_below (zR HO395.out) hb) (blk_below (g := gb386) (o := .cells #[.int .i64 a0_0, .slice A0_1 l0_1.length c0_1] 26 (0, 0)) (zB BK386.out) hb) (below_step (zH1 HB.out GE386.out) hb) ?_; clear HO392 HO395 BK386 HB; intro HO392 HO395 BK386 HB; (try clear hb); (try clear hb2); (try clear hk); (try clear hi)))
        go_ret
        exact ⟨zE, zH1 HB.out GE386.out⟩
      · rw [if_neg c9] at H
        have c9b0 := zq3 c9
        have c9b1 := zq4 c9
        obtain ⟨y397, hy397⟩ : ∃ y_ : List (S57), y_ = (([(⟨false, 5⟩ : S57), (⟨decide (a0_0 ≤ 9), 3⟩ : S57)] : List (S57))) := ⟨_, rfl⟩
        replace H : ((impl_first.f k y397).bind fun t400 => (some t400)) = some r := by first | (rw [hy397]; with_reducible exact H) | (have H2_ := (Option.bind_some _ _).symm.trans H; rw [hy397]; with_reducible exact H2_) | (have H2_ := (Option.bind_some _ _).symm.trans H; with_reducible exact H2_) | with_reducible exact H | (rw [hy397]; exact H) | exact H
        have Ny397 := Aside0.mk hy397
        clear hy397
        obtain ⟨t400, A27, H⟩ := zb H
        obtain rfl := Option.some.inj H
        go_enter Try.func20, Try.ntmps20
        go_wp2_with (first | ((with_reducible refine gate_dst (N := 3) rfl ?_); (try (refine gate_guard (by rfl) ?_; dsimp only)); refine zX 3 #[.int .i64 a0_0, .slice A0_1 l0_1.length c0_1] 26 ?_; intro gb386 hg w28 hbox hb; refine zA4 (below_step (zH HB.out) hb) (hbox) ((zS hg (below_size (zH HB.out)) : w.heap.size ≤ gb386)) ((zS hg (below_size (zH HB.out)) : w.heap.size ≤ gb386)) ?_; clear HB; intro HB BK386 GW386 GE386; clear hb hbox hg; obtain ⟨hcz29_0, hcz29_1⟩ := zc2 BK386; obtain ⟨hfz29_0, hfz29_1⟩ := zf2 BK386) | ((with_reducible refine gate_callee (f := 38) rfl ?_); refine goesL_ (some 12) rfl rfl Try.func38 (by kernel_rfl) rfl #[.agg #[.int .i64 a0_0, .slice A0_1 l0_1.length c0_1], .int .i64 a1, .int .i64 a2] rfl zM ?_; (with_reducible refine (impl_stateCode.calls k a0_0 _ _ l0_1 a1 a2 t387 _ ?side1 ?side2 A4.out).mono ?_); (case side1 => repeat (first | exact (Kd.C_below HR0_1.out HB.out) | (with_reducible refine Kd.C_alloc ?_ _) | (with_reducible refine Kd.C_drewN ?_ _) | (with_reducible refine Kd.C_drew ?_))); (case side2 => exact HC0_1.out); rintro e w30 ⟨rfl, hb⟩; refine ⟨_, rfl, ?_⟩; refine zA2 (blk_below (g := gb386) (o := .cells #[.int .i64 a0_0, .slice A0_1 l0_1.length c0_1] 26 (0, 0)) (zB BK386.out) hb) (below_step (zH1 HB.out GE386.out) hb) ?_; clear BK386 HB; intro BK386 HB; (try clear hb); (try clear hb2); (try clear hk); (try clear hi); obtain ⟨hcz31_0, hcz31_1⟩ := zc2 BK386; obtain ⟨hfz31_0, hfz31_1⟩ := zf2 BK386) | ((with_reducible refine gate_callee (f := 34) rfl ?_); refine goesL_ (some 18) rfl rfl Try.func34 (by kernel_rfl) rfl #[.agg #[.int .i64 a0_0, .slice A0_1 l0_1.length c0_1], .int .i64 a1] rfl zM ?_; (with_reducible refine (impl_Board_filled.calls k a0_0 _ _ l0_1 a1 t388 _ ?side1 ?side2 A6.out).mono ?_); (case side1 => repeat (first | exact (Kd.C_below HR0_1.out HB.out) | (with_reducible refine Kd.C_alloc ?_ _) | (with_reducible refine Kd.C_drewN ?_ _) | (with_reducible refine Kd.C_drew ?_))); (case side2 => exact HC0_1.out); rintro e w32 ⟨rfl, hb⟩; refine ⟨_, rfl, ?_⟩; refine zA2 (blk_below (g := gb386) (o := .cells #[.int .i64 a0_0, .slice A0_1 l0_1.length c0_1] 26 (0, 0)) (zB BK386.out) hb) (below_step (zH1 HB.out GE386.out) hb) ?_; clear BK386 HB; intro BK386 HB; (try clear hb); (try clear hb2); (try clear hk); (try clear hi); obtain ⟨hcz33_0, hcz33_1⟩ := zc2 BK386; obtain ⟨hfz33_0, hfz33_1⟩ := zf2 BK386) | (go_at_call 34; (with_reducible refine (impl_Board_filled.calls k a0_0 _ _ l0_1 a2 t389 _ ?side1 ?side2 A8.out).mono ?_); (case side1 => repeat (first | exact (Kd.C_below HR0_1.out HB.out) | (with_reducible refine Kd.C_alloc ?_ _) | (with_reducible refine Kd.C_drewN ?_ _) | (with_reducible refine Kd.C_drew ?_))); (case side2 => exact HC0_1.out); rintro e w34 ⟨rfl, hb⟩; refine zA2 (blk_below (g := gb386) (o := .cells #[.int .i64 a0_0, .slice A0_1 l0_1.length c0_1] 26 (0, 0)) (zB BK386.out) hb) (below_step (zH1 HB.out GE386.out) hb) ?_; clear BK386 HB; intro BK386 HB; (try clear hb); (try clear hb2); (try clear hk); (try clear hi); obtain ⟨hcz35_0, hcz35_1⟩ := zc2 BK386; obtain ⟨hfz35_0, hfz35_1⟩ := zf2 BK386) | ((with_reducible refine gate_dst (N := 40) rfl ?_); (try (refine gate_guard (by rfl) ?_; dsimp only)); refine Kd.R_lit k57 _ 57 ?hg (N := 40) ?hd (xs := ([(⟨false, 5⟩ : S57), (⟨decide (a0_0 ≤ 9), 3⟩ : S57)] : List (S57))) (inner := [.bool false, .int .i64 5, .bool (decide (a0_0 ≤ 9)), .int .i64 3]) (ok := fun _ => True) (okp := fun _ => True) ?hr ?hp (fun _ hk => hk) trivial (Below.refl _ _) (Nat.le_refl _) (by simp) ?_; (case hd => rfl); (case hg => rfl); (case hr => first | (go_simp; done) | (go_simp; rfl)); (case hp => exact (Reps.c2 (show Kd.M k57 _ _ _ (⟨false, 5⟩ : S57) [.bool false, .int .i64 5] from (k57_mkM _ _ _ (⟨false, 5⟩ : S57) )) (Reps.c2 (show Kd.M k57 _ _ _ (⟨decide (a0_0 ≤ 9), 3⟩ : S57) [.bool (decide (a0_0 ≤ 9)), .int .i64 3] from (k57_mkM _ _ _ (⟨decide (a0_0 ≤ 9), 3⟩ : S57) )) (Reps.none _ _)))); intro v398 w36 ho37 hb hg_ hnew_; clear hg_ hnew_; (first | rw [← Ny397.out] at ho37 | (simp only [Int.reduceToNat] at ho37; rw [← Ny397.out] at ho37)); refine zA3 (Kd.R_lower ho37 (below_size (zH1 HB.out GE386.out))) (blk_below (g := gb386) (o := .cells #[.int .i64 a0_0, .slice A0_1 l0_1.length c0_1] 26 (0, 0)) (zB BK386.out) hb) (below_step (zH1 HB.out GE386.out) hb) ?_; clear BK386 HB; intro HO399 BK386 HB; clear hb ho37; obtain ⟨Ao38, co38, eo38⟩ := Kd.R_slice HO399.out; subst eo38) | ((with_reducible refine gate_callee (f := 32) rfl ?_); refine goesL_ (some 41) rfl rfl Try.func32 (by kernel_rfl) rfl #[.slice Ao38 y397.length co38] rfl zM ?_; (with_reducible refine (impl_first.calls k _ _ y397 t400 _ ?side1 ?side2 A27.out).mono ?_); (case side1 => repeat (first | exact (Kd.R_reads' HO399.out).2.2 | (with_reducible refine Kd.C_alloc ?_ _) | (with_reducible refine Kd.C_drewN ?_ _) | (with_reducible refine Kd.C_drew ?_))); (case side2 => exact (Kd.R_reads' HO399.out).2.1); rintro e w39 ⟨rfl, hb⟩; refine ⟨_, rfl, ?_⟩; refine zA3 (Kd.R_below (zR HO399.out) hb) (blk_below (g := gb386) (o := .cells #[.int .i64 a0_0, .slice A0_1 l0_1.length c0_1] 26 (0, 0)) (zB BK386.out) hb) (below_step (zH1 HB.out GE386.out) hb) ?_; clear HO399 BK386 HB; intro HO399 BK386 HB; (try clear hb); (try clear hb2); (try clear hk); (try clear hi)))
        go_ret
        exact ⟨zE, zH1 HB.out GE386.out⟩
    · rw [if_neg c7] at H
      have c7b0 := zq3 c7
      have c7b1 := zq4 c7
      obtain ⟨y401, hy401⟩ : ∃ y_ : List (S57), y_ = (([(⟨false, 5⟩ : S57), (⟨decide (a0_0 ≤ 9), 3⟩ : S57)] : List (S57))) := ⟨_, rfl⟩
      replace H : ((impl_first.f k y401).bind fun t404 => (some t404)) = some r := by first | (rw [hy401]; with_reducible exact H) | (have H2_ := (Option.bind_some _ _).symm.trans H; rw [hy401]; with_reducible exact H2_) | (have H2_ := (Option.bind_some _ _).symm.trans H; with_reducible exact H2_) | with_reducible exact H | (rw [hy401]; exact H) | exact H
      have Ny401 := Aside0.mk hy401
      clear hy401
      obtain ⟨t404, A40, H⟩ := zb H
      obtain rfl := Option.some.inj H
      go_enter Try.func20, Try.ntmps20
      go_wp2_with (first | ((with_reducible refine gate_dst (N := 3) rfl ?_); (try (refine gate_guard (by rfl) ?_; dsimp only)); refine zX 3 #[.int .i64 a0_0, .slice A0_1 l0_1.length c0_1] 26 ?_; intro gb386 hg w41 hbox hb; refine zA4 (below_step (zH HB.out) hb) (hbox) ((zS hg (below_size (zH HB.out)) : w.heap.size ≤ gb386)) ((zS hg (below_size (zH HB.out)) : w.heap.size ≤ gb386)) ?_; clear HB; intro HB BK386 GW386 GE386; clear hb hbox hg; obtain ⟨hcz42_0, hcz42_1⟩ := zc2 BK386; obtain ⟨hfz42_0, hfz42_1⟩ := zf2 BK386) | ((with_reducible refine gate_callee (f := 38) rfl ?_); refine goesL_ (some 12) rfl rfl Try.func38 (by kernel_rfl) rfl #[.agg #[.int .i64 a0_0, .slice A0_1 l0_1.length c0_1], .int .i64 a1, .int .i64 a2] rfl zM ?_; (with_reducible refine (impl_stateCode.calls k a0_0 _ _ l0_1 a1 a2 t387 _ ?side1 ?side2 A4.out).mono ?_); (case side1 => repeat (first | exact (Kd.C_below HR0_1.out HB.out) | (with_reducible refine Kd.C_alloc ?_ _) | (with_reducible refine Kd.C_drewN ?_ _) | (with_reducible refine Kd.C_drew ?_))); (case side2 => exact HC0_1.out); rintro e w43 ⟨rfl, hb⟩; refine ⟨_, rfl, ?_⟩; refine zA2 (blk_below (g := gb386) (o := .cells #[.int .i64 a0_0, .slice A0_1 l0_1.length c0_1] 26 (0, 0)) (zB BK386.out) hb) (below_step (zH1 HB.out GE386.out) hb) ?_; clear BK386 HB; intro BK386 HB; (try clear hb); (try clear hb2); (try clear hk); (try clear hi); obtain ⟨hcz44_0, hcz44_1⟩ := zc2 BK386; obtain ⟨hfz44_0, hfz44_1⟩ := zf2 BK386) | ((with_reducible refine gate_callee (f := 34) rfl ?_); refine goesL_ (some 18) rfl rfl Try.func34 (by kernel_rfl) rfl #[.agg #[.int .i64 a0_0, .slice A0_1 l0_1.length c0_1], .int .i64 a1] rfl zM ?_; (with_reducible refine (impl_Board_filled.calls k a0_0 _ _ l0_1 a1 t388 _ ?side1 ?side2 A6.out).mono ?_); (case side1 => repeat (first | exact (Kd.C_below HR0_1.out HB.out) | (with_reducible refine Kd.C_alloc ?_ _) | (with_reducible refine Kd.C_drewN ?_ _) | (with_reducible refine Kd.C_drew ?_))); (case side2 => exact HC0_1.out); rintro e w45 ⟨rfl, hb⟩; refine ⟨_, rfl, ?_⟩; refine zA2 (blk_below (g := gb386) (o := .cells #[.int .i64 a0_0, .slice A0_1 l0_1.length c0_1] 26 (0, 0)) (zB BK386.out) hb) (below_step (zH1 HB.out GE386.out) hb) ?_; clear BK386 HB; intro BK386 HB; (try clear hb); (try clear hb2); (try clear hk); (try clear hi); obtain ⟨hcz46_0, hcz46_1⟩ := zc2 BK386; obtain ⟨hfz46_0, hfz46_1⟩ := zf2 BK386) | ((with_reducible refine gate_dst (N := 40) rfl ?_); (try (refine gate_guard (by rfl) ?_; dsimp only)); refine Kd.R_lit k57 _ 57 ?hg (N := 40) ?hd (xs := ([(⟨false, 5⟩ : S57), (⟨decide (a0_0 ≤ 9), 3⟩ : S57)] : List (S57))) (inner := [.bool false, .int .i64 5, .bool (decide (a0_0 ≤ 9)), .int .i64 3]) (ok := fun _ => True) (okp := fun _ => True) ?hr ?hp (fun _ hk => hk) trivial (Below.refl _ _) (Nat.le_refl _) (by simp) ?_; (case hd => rfl); (case hg => rfl); (case hr => first | (go_simp; done) | (go_simp; rfl)); (case hp => exact (Reps.c2 (show Kd.M k57 _ _ _ (⟨false, 5⟩ : S57) [.bool false, .int .i64 5] from (k57_mkM _ _ _ (⟨false, 5⟩ : S57) )) (Reps.c2 (show Kd.M k57 _ _ _ (⟨decide (a0_0 ≤ 9), 3⟩ : S57) [.bool (decide (a0_0 ≤ 9)), .int .i64 3] from (k57_mkM _ _ _ (⟨decide (a0_0 ≤ 9), 3⟩ : S57) )) (Reps.none _ _)))); intro v402 w47 ho48 hb hg_ hnew_; clear hg_ hnew_; (first | rw [← Ny401.out] at ho48 | (simp only [Int.reduceToNat] at ho48; rw [← Ny401.out] at ho48)); refine zA3 (Kd.R_lower ho48 (below_size (zH1 HB.out GE386.out))) (blk_below (g := gb386) (o := .cells #[.int .i64 a0_0, .slice A0_1 l0_1.length c0_1] 26 (0, 0)) (zB BK386.out) hb) (below_step (zH1 HB.out GE386.out) hb) ?_; clear BK386 HB; intro HO403 BK386 HB; clear hb ho48; obtain ⟨Ao49, co49, eo49⟩ := Kd.R_slice HO403.out; subst eo49) | ((with_reducible refine gate_callee (f := 32) rfl ?_); refine goesL_ (some 41) rfl rfl Try.func32 (by kernel_rfl) rfl #[.slice Ao49 y401.length co49] rfl zM ?_; (with_reducible refine (impl_first.calls k _ _ y401 t404 _ ?side1 ?side2 A40.out).mono ?_); (case side1 => repeat (first | exact (Kd.R_reads' HO403.out).2.2 | (with_reducible refine Kd.C_alloc ?_ _) | (with_reducible refine Kd.C_drewN ?_ _) | (with_reducible refine Kd.C_drew ?_))); (case side2 => exact (Kd.R_reads' HO403.out).2.1); rintro e w50 ⟨rfl, hb⟩; refine ⟨_, rfl, ?_⟩; refine zA3 (Kd.R_below (zR HO403.out) hb) (blk_below (g := gb386) (o := .cells #[.int .i64 a0_0, .slice A0_1 l0_1.length c0_1] 26 (0, 0)) (zB BK386.out) hb) (below_step (zH1 HB.out GE386.out) hb) ?_; clear HO403 BK386 HB; intro HO403 BK386 HB; (try clear hb); (try clear hb2); (try clear hk); (try clear hi)))
      go_ret
      exact ⟨zE, zH1 HB.out GE386.out⟩
  · rw [if_neg c5] at H
    have c5b0 := zq3 c5
    have c5b1 := zq4 c5
    obtain rfl := Option.some.inj H
    go_enter Try.func20, Try.ntmps20
    go_wp2_with (first | ((with_reducible refine gate_dst (N := 3) rfl ?_); (try (refine gate_guard (by rfl) ?_; dsimp only)); refine zX 3 #[.int .i64 a0_0, .slice A0_1 l0_1.length c0_1] 26 ?_; intro gb386 hg w51 hbox hb; refine zA4 (below_step (zH HB.out) hb) (hbox) ((zS hg (below_size (zH HB.out)) : w.heap.size ≤ gb386)) ((zS hg (below_size (zH HB.out)) : w.heap.size ≤ gb386)) ?_; clear HB; intro HB BK386 GW386 GE386; clear hb hbox hg; obtain ⟨hcz52_0, hcz52_1⟩ := zc2 BK386; obtain ⟨hfz52_0, hfz52_1⟩ := zf2 BK386) | ((with_reducible refine gate_callee (f := 38) rfl ?_); refine goesL_ (some 12) rfl rfl Try.func38 (by kernel_rfl) rfl #[.agg #[.int .i64 a0_0, .slice A0_1 l0_1.length c0_1], .int .i64 a1, .int .i64 a2] rfl zM ?_; (with_reducible refine (impl_stateCode.calls k a0_0 _ _ l0_1 a1 a2 t387 _ ?side1 ?side2 A4.out).mono ?_); (case side1 => repeat (first | exact (Kd.C_below HR0_1.out HB.out) | (with_reducible refine Kd.C_alloc ?_ _) | (with_reducible refine Kd.C_drewN ?_ _) | (with_reducible refine Kd.C_drew ?_))); (case side2 => exact HC0_1.out); rintro e w53 ⟨rfl, hb⟩; refine ⟨_, rfl, ?_⟩; refine zA2 (blk_below (g := gb386) (o := .cells #[.int .i64 a0_0, .slice A0_1 l0_1.length c0_1] 26 (0, 0)) (zB BK386.out) hb) (below_step (zH1 HB.out GE386.out) hb) ?_; clear BK386 HB; intro BK386 HB; (try clear hb); (try clear hb2); (try clear hk); (try clear hi)))
    go_ret
    exact ⟨zE, zH1 HB.out GE386.out⟩

-- NOT PRINTED: function 46 (impl_Board_behind)

-- NOT PRINTED: function 45 (impl_Board_results_1)

-- NOT PRINTED: function 21 (impl_Board_results)

/-! ### spec_l07Race: function 24 -/
mutual
def spec_l07Race.l0 : Nat → Int → Int → List Int → Int → Int → Bool → Int → Int → List Int → Option (Int × List Int)
  | 0, _, _, _, _, _, _, _, _, _ => none
  | k + 1, x1, x2, x3, x9, x10, x11, x12, x428000, x428001 => if x12 < x428000 then (if 0 ≤ (IntKind.u64.wrap (x12)) then (if (Go.bits .and .i64 (shr .i64 (Go.bits .or .i64 x1 x2) (IntKind.u64.wrap (x12))) 1) = 0 then ((spec_l07Behind.F (spec_l07Race.f k) k x428000 x428001 x1 x2 x12 x3).bind fun bt431 => (spec_l07Race.l0 k x1 x2 bt431.2 x9 (mx x10 bt431.1) true (wrap64 (x12 + 1)) x428000 x428001)) else (spec_l07Race.l0 k x1 x2 x3 x9 x10 x11 (wrap64 (x12 + 1)) x428000 x428001)) else (none)) else (if x11 = true then (if 0 ≤ x9 then (if x9 < (x3.length : Int) then (some (x10, (x3.set (x9 : Int).toNat (IntKind.i8.wrap (wrap64 (x10 + 2)))))) else (none)) else (none)) else (if 0 ≤ x9 then (if x9 < (x3.length : Int) then (some (0, (x3.set (x9 : Int).toNat (0 + 2)))) else (none)) else (none)))
def spec_l07Race.f : Nat → Int → List Int → Int → Int → List Int → Option (Int × List Int)
  | 0, _, _, _, _, _ => none
  | k + 1, a0_0, l0_1, a1, a2, l3 => (spec_l07Place.f k a0_0 l0_1 a1 a2).bind fun t428 => (if 0 ≤ t428 then (if t428 < (l3.length : Int) then (if (rd l3 t428) > 0 then (some (wrap64 ((wrap64 (rd l3 t428)) - 2), l3)) else (spec_l07Race.l0 k a1 a2 l3 t428 (-1) false 0 a0_0 l0_1)) else (none)) else (none))
end
theorem spec_l07Race.mono_l : ∀ k, (∀ y0 y1 y2 y3 y4, LeO (spec_l07Race.f k y0 y1 y2 y3 y4) (spec_l07Race.f (k + 1) y0 y1 y2 y3 y4)) ∧ (∀ y0 y1 y2 y3 y4 y5 y6 y7 y8, LeO (spec_l07Race.l0 k y0 y1 y2 y3 y4 y5 y6 y7 y8) (spec_l07Race.l0 (k + 1) y0 y1 y2 y3 y4 y5 y6 y7 y8))
  | 0 => ⟨fun _ _ _ _ _ r h => by simp [spec_l07Race.f] at h, fun _ _ _ _ _ _ _ _ _ r h => by simp [spec_l07Race.l0] at h⟩
  | k + 1 => by
    obtain ⟨ih0, ih1⟩ := spec_l07Race.mono_l k
    refine ⟨?_, ?_⟩
    · intro y0 y1 y2 y3 y4
      unfold spec_l07Race.f
      repeat' first
      | (with_reducible exact ih0 _ _ _ _ _)
      | (with_reducible exact ih1 _ _ _ _ _ _ _ _ _)
      | (with_reducible exact spec_l07Behind.F_mono ih0 _ _ _ _ _ _ _)
      | (with_reducible exact spec_l07Place.mono _ _ _ _ _)
      | (with_reducible exact LeO.refl _)
      | (with_reducible exact LeO.none _)
      | (with_reducible refine LeO.ite ?_ ?_)
      | (with_reducible refine LeO.bind ?_ (fun _ => ?_))
      | exact ih0 _ _ _ _ _
      | exact ih1 _ _ _ _ _ _ _ _ _
      | exact spec_l07Behind.F_mono ih0 _ _ _ _ _ _ _
      | exact spec_l07Place.mono _ _ _ _ _
      | exact LeO.none _
      | refine LeO.ite ?_ ?_
      | refine LeO.bind ?_ (fun _ => ?_)
    · intro y0 y1 y2 y3 y4 y5 y6 y7 y8
      unfold spec_l07Race.l0
      repeat' first
      | (with_reducible exact ih0 _ _ _ _ _)
      | (with_reducible exact ih1 _ _ _ _ _ _ _ _ _)
      | (with_reducible exact spec_l07Behind.F_mono ih0 _ _ _ _ _ _ _)
      | (with_reducible exact spec_l07Place.mono _ _ _ _ _)
      | (with_reducible exact LeO.refl _)
      | (with_reducible exact LeO.none _)
      | (with_reducible refine LeO.ite ?_ ?_)
      | (with_reducible refine LeO.bind ?_ (fun _ => ?_))
      | exact ih0 _ _ _ _ _
      | exact ih1 _ _ _ _ _ _ _ _ _
      | exact spec_l07Behind.F_mono ih0 _ _ _ _ _ _ _
      | exact spec_l07Place.mono _ _ _ _ _
      | exact LeO.none _
      | refine LeO.ite ?_ ?_
      | refine LeO.bind ?_ (fun _ => ?_)
theorem spec_l07Race.mono : ∀ a0 a1 a2 a3 a4 k, LeO (spec_l07Race.f k a0 a1 a2 a3 a4) (spec_l07Race.f (k + 1) a0 a1 a2 a3 a4) := by
  intro a0 a1 a2 a3 a4 k
  obtain ⟨ih0, ih1⟩ := spec_l07Race.mono_l k
  exact ih0 a0 a1 a2 a3 a4
set_option maxHeartbeats 8000000 in
set_option maxRecDepth 100000 in
theorem spec_l07Race.calls (k : Nat) : ∀ (a0_0 : Int) (A0_1 : Option Addr) (c0_1 : Nat) (l0_1 : List Int) (a1 : Int) (a2 : Int) (P3_ : Nat → Prop) (u9000_ : Value) (l3 : List Int) (r1 : Int) (r2 : List Int) (w0 w : World) (hB : Below w0.heap.size w0 w) (hr0_1 : ∀ W_, Kept w W_ (fun k_ => P3_ k_) → Kd.C (Kd.int .i64) W_ A0_1 l0_1.length l0_1) (hc0_1 : l0_1.length ≤ c0_1) (ho3 : Kd.R (Kd.int .i8) 72 w w0.heap.size P3_ u9000_ l3) (h : spec_l07Race.f k a0_0 l0_1 a1 a2 l3 = some (r1, r2)),
    Calls Try.prog 24 #[.agg #[.int .i64 a0_0, .slice A0_1 l0_1.length c0_1], .int .i64 a1, .int .i64 a2, u9000_] w fun e w' => e = .returned (.int .i64 r1) ∧ Kd.R (Kd.int .i8) 72 w' w0.heap.size (fun k_ => (P3_ k_ ∨ w.heap.size ≤ k_)) u9000_ r2 ∧ Below w0.heap.size w0 w' ∧ Kept w w' (fun k_ => P3_ k_) := by
  induction k using Nat.strongRecOn with
  | _ k ih =>
  intro a0_0 A0_1 c0_1 l0_1 a1 a2 P3_ u9000_ l3 r1 r2 w0 w hB hr0_1 hc0_1 ho3 h
  cases k with
  | zero => exact absurd h (by simp [spec_l07Race.f])
  | succ k =>
  simp only [spec_l07Race.f] at h
  have hu26 := Try.underlying26
  have HR0_1 := Aside0.mk hr0_1
  have HC0_1 := Aside0.mk hc0_1
  clear hr0_1 hc0_1
  have HO3 := Aside0.mk (show Kd.R (Kd.int .i8) 72 w w0.heap.size (fun k_ => (P3_ k_ ∨ w.heap.size ≤ k_)) u9000_ l3 from Kd.R_mono ho3 (fun k_ hk => (.inl hk)))
  have HK := Aside0.mk (Kept.refl w (fun k_ => P3_ k_))
  have HW0 := Aside0.mk hB.size
  have HB := Aside0.mk hB
  clear hB
  have H : ((spec_l07Place.f k a0_0 l0_1 a1 a2).bind fun t428 => (if 0 ≤ t428 then (if t428 < (l3.length : Int) then (if (rd l3 t428) > 0 then (some (wrap64 ((wrap64 (rd l3 t428)) - 2), l3)) else (spec_l07Race.l0 k a1 a2 l3 t428 (-1) false 0 a0_0 l0_1)) else (none)) else (none))) = some (r1, r2) := h
  clear h
  obtain ⟨t428, A5, H⟩ := zb H
  by_cases c6 : 0 ≤ t428
  · rw [if_pos c6] at H
    have c6b0 := decide_eq_true c6
    clear c6
    by_cases c7 : t428 < (l3.length : Int)
    · rw [if_pos c7] at H
      have c7b0 := decide_eq_true c7
      clear c7
      by_cases c8 : (rd l3 t428) > 0
      · rw [if_pos c8] at H
        have c8b0 := decide_eq_true c8
        clear c8
        simp only [Option.some.injEq, Prod.mk.injEq] at H
        obtain ⟨rfl, rfl⟩ := H
        go_enter Try.func24, Try.ntmps24
        go_wp2_with (first | ((with_reducible refine gate_dst (N := 4) rfl ?_); refine zX 4 #[.int .i64 a0_0, .slice A0_1 l0_1.length c0_1] 26 ?_; intro gb427 hg w9 hbox hb; refine zA6 (Kd.R_below (zR HO3.out) hb) (Kept.below (S := (fun k_ => P3_ k_)) (zK HK.out) hb) (below_step (zH HB.out) hb) (hbox) ((by rw [hg]; exact (by first | exact HK.out.1 | exact (show Kept w _ (fun k_ => P3_ k_) from zK HK.out).1) : w.heap.size ≤ gb427)) ((zS hg (below_size (zH HB.out)) : w0.heap.size ≤ gb427)) ?_; clear HO3 HK HB; intro HO3 HK HB BK427 GW427 GE427; clear hb hbox hg; obtain ⟨hcz10_0, hcz10_1⟩ := zc2 BK427; obtain ⟨hfz10_0, hfz10_1⟩ := zf2 BK427) | ((with_reducible refine gate_callee (f := 48) rfl ?_); refine goesL_ (some 16) rfl rfl Try.func48 (by kernel_rfl) rfl #[.agg #[.int .i64 a0_0, .slice A0_1 l0_1.length c0_1], .int .i64 a1, .int .i64 a2] rfl zM ?_; (with_reducible refine (spec_l07Place.calls k a0_0 _ _ l0_1 a1 a2 t428 _ ?side1 ?side2 A5.out).mono ?_); (case side1 => exact Kd.C_kept_now HR0_1.out (zK1 HK.out GW427.out)); (case side2 => exact HC0_1.out); rintro e w11 ⟨rfl, hb⟩; refine ⟨_, rfl, ?_⟩; refine zA4 (Kd.R_below (zR HO3.out) hb) (blk_below (g := gb427) (o := .cells #[.int .i64 a0_0, .slice A0_1 l0_1.length c0_1] 26 (0, 0)) (zB BK427.out) hb) (Kept.below (S := (fun k_ => P3_ k_)) (zK1 HK.out GW427.out) hb) (below_step (zH1 HB.out GE427.out) hb) ?_; clear HO3 BK427 HK HB; intro HO3 BK427 HK HB; (try clear hb); (try clear hb2); (try clear hk); (try clear hi); obtain ⟨Ao12, co12, eo12⟩ := Kd.R_slice HO3.out; subst eo12; have p429 : 0 ≤ (t428 : Int) := of_decide_eq_true (by first | (with_reducible assumption) | assumption); have q429 : t428 < (l3.length : Int) := of_decide_eq_true (by first | (with_reducible assumption) | assumption); obtain ⟨ad429, e429, hx429_0⟩ := Kd.at_int (Kd.R_reads' HO3.out).2.2 t428 p429 q429; cases e429; replace p429 := eq_true p429; replace q429 := eq_true q429; have p430 : 0 ≤ (t428 : Int) := of_decide_eq_true (by first | (with_reducible assumption) | assumption); have q430 : t428 < (l3.length : Int) := of_decide_eq_true (by first | (with_reducible assumption) | assumption); obtain ⟨ad430, e430, hx430_0⟩ := Kd.at_int (Kd.R_reads' HO3.out).2.2 t428 p430 q430; obtain rfl : ad429 = ad430 := (by injection e430); replace p430 := eq_true p430; replace q430 := eq_true q430))
        go_ret
        exact ⟨zE, by (with_reducible repeat (first | apply Kd.R_alloc | apply Kd.R_drewN | apply Kd.R_drew)); exact HO3.out, zH1 HB.out GE427.out, zK1 HK.out GW427.out⟩
      · rw [if_neg c8] at H
        have c8b0 := decide_eq_false c8
        clear c8
        have H' := Aside0.mk H
        clear H
        go_enter Try.func24, Try.ntmps24
        go_wp2_with (first | ((with_reducible refine gate_dst (N := 4) rfl ?_); refine zX 4 #[.int .i64 a0_0, .slice A0_1 l0_1.length c0_1] 26 ?_; intro gb427 hg w13 hbox hb; refine zA6 (Kd.R_below (zR HO3.out) hb) (Kept.below (S := (fun k_ => P3_ k_)) (zK HK.out) hb) (below_step (zH HB.out) hb) (hbox) ((by rw [hg]; exact (by first | exact HK.out.1 | exact (show Kept w _ (fun k_ => P3_ k_) from zK HK.out).1) : w.heap.size ≤ gb427)) ((zS hg (below_size (zH HB.out)) : w0.heap.size ≤ gb427)) ?_; clear HO3 HK HB; intro HO3 HK HB BK427 GW427 GE427; clear hb hbox hg; obtain ⟨hcz14_0, hcz14_1⟩ := zc2 BK427; obtain ⟨hfz14_0, hfz14_1⟩ := zf2 BK427) | ((with_reducible refine gate_callee (f := 48) rfl ?_); refine goesL_ (some 16) rfl rfl Try.func48 (by kernel_rfl) rfl #[.agg #[.int .i64 a0_0, .slice A0_1 l0_1.length c0_1], .int .i64 a1, .int .i64 a2] rfl zM ?_; (with_reducible refine (spec_l07Place.calls k a0_0 _ _ l0_1 a1 a2 t428 _ ?side1 ?side2 A5.out).mono ?_); (case side1 => exact Kd.C_kept_now HR0_1.out (zK1 HK.out GW427.out)); (case side2 => exact HC0_1.out); rintro e w15 ⟨rfl, hb⟩; refine ⟨_, rfl, ?_⟩; refine zA4 (Kd.R_below (zR HO3.out) hb) (blk_below (g := gb427) (o := .cells #[.int .i64 a0_0, .slice A0_1 l0_1.length c0_1] 26 (0, 0)) (zB BK427.out) hb) (Kept.below (S := (fun k_ => P3_ k_)) (zK1 HK.out GW427.out) hb) (below_step (zH1 HB.out GE427.out) hb) ?_; clear HO3 BK427 HK HB; intro HO3 BK427 HK HB; (try clear hb); (try clear hb2); (try clear hk); (try clear hi); obtain ⟨Ao16, co16, eo16⟩ := Kd.R_slice HO3.out; subst eo16; have p429 : 0 ≤ (t428 : Int) := of_decide_eq_true (by first | (with_reducible assumption) | assumption); have q429 : t428 < (l3.length : Int) := of_decide_eq_true (by first | (with_reducible assumption) | assumption); obtain ⟨ad429, e429, hx429_0⟩ := Kd.at_int (Kd.R_reads' HO3.out).2.2 t428 p429 q429; cases e429; replace p429 := eq_true p429; replace q429 := eq_true q429))
        go_loopg [10, 11, 12] k (fun kq v10 v11 v12 w' => ∃ (x3_1 : List Int) (x10_1 : Int) (x11_1 : Bool) (x12_1 : Int), v10 = .int .i64 x10_1 ∧ v11 = .bool x11_1 ∧ v12 = .int .i64 x12_1 ∧ Aside0 (spec_l07Race.l0 kq a1 a2 x3_1 t428 x10_1 x11_1 x12_1 a0_0 l0_1 = some (r1, r2)) ∧ Aside0 (kq ≤ k) ∧ Aside0 (Kd.R (Kd.int .i8) 72 w' w0.heap.size (fun k_ => (P3_ k_ ∨ w.heap.size ≤ k_)) (.slice (some ad429) l3.length co16) x3_1) ∧ Aside0 (w'.heap[gb427]? = some (.cells #[.int .i64 a0_0, (.slice A0_1 l0_1.length c0_1)] 26 (0, 0))) ∧ Aside0 (Kept w w' (fun k_ => P3_ k_)) ∧ Aside0 (Below w0.heap.size w0 w'))
        case atStart => exact ⟨(l3), ((-1)), (false), (0), (zF), (zF), (zF), H', ⟨Nat.le_refl _⟩, ⟨zR HO3.out⟩, ⟨zB BK427.out⟩, ⟨zK1 HK.out GW427.out⟩, ⟨zH1 HB.out GE427.out⟩⟩
        case round =>
          clear H'
          try clear c2
          try clear p2
          try clear c4
          try clear p4
          try clear q4
          try clear hx4
          try clear c6
          try clear c6b0
          try clear p6
          try clear c7
          try clear c7b0
          try clear c8
          try clear c8b0
          try clear hcz10_0
          try clear hcz10_1
          try clear hcz14_0
          try clear hcz14_1
          try clear hfz10_0
          try clear hfz10_1
          try clear hfz14_0
          try clear hfz14_1
          try clear hx429_0
          try clear hx430_0
          try clear p429
          try clear p430
          try clear q429
          try clear q430
          obtain ⟨x3_1, x10_1, x11_1, x12_1, rfl, rfl, rfl, HA, HK1, HO_3, BK427, HK, HB⟩ := hrel
          have hl3_1 := (Kd.R_reads' HO_3.out).1
          rw [hl3_1] at HO_3
          (try simp only [hl3_1])
          (try simp only [hl3_1] at BK427)
          cases gk with
          | zero => exact absurd HA.out (by simp [spec_l07Race.l0])
          | succ k1 =>
            have H := HA.out
            clear HA
            simp only [spec_l07Race.l0] at H
            by_cases c17 : x12_1 < a0_0
            · rw [if_pos c17] at H
              have c17b0 := decide_eq_true c17
              clear c17
              obtain ⟨ji18, hji18⟩ := zj (IntKind.u64.wrap (x12_1))
              (first | rw [hji18] at H | simp only [hji18] at H)
              by_cases c19 : 0 ≤ (ji18)
              · rw [if_pos c19] at H
                have c19b0 := eq_true c19
                have c19b1 := decide_eq_true c19
                clear c19
                obtain ⟨ji20, hji20⟩ := zj (shr .i64 (Go.bits .or .i64 a1 a2) (ji18))
                (first | rw [hji20] at H | simp only [hji20] at H)
                have hji20_ : ((Go.bits .or .i64 a1 a2) / 2 ^ min (ji18).toNat 64) = ji20 := hji20
                have hji20z : (ji18) ≤ 64 → ((Go.bits .or .i64 a1 a2) / 2 ^ (ji18).toNat) = ji20 := shr_small hji20
                by_cases c21 : (Go.bits .and .i64 (ji20) 1) = 0
                · rw [if_pos c21] at H
                  have c21b0 := zq1 c21
                  have c21b1 := zq2 c21
                  clear c21
                  obtain ⟨⟨t431, t432⟩, A22, H⟩ := zb H; (try dsimp only at H)
                  obtain ⟨ji23, hji23⟩ := zj (mx x10_1 t431)
                  (first | rw [hji23] at H | simp only [hji23] at H)
                  (try rw [hji23] at A22)
                  have hji23_ : (if x10_1 < t431 then t431 else x10_1) = ji23 := hji23
                  have H' := Aside0.mk H
                  clear H
                  obtain ⟨hcz24_0, hcz24_1⟩ := zc2 BK427
                  obtain ⟨hfz24_0, hfz24_1⟩ := zf2 BK427
                  go_wp2_with (first | ((with_reducible refine gate_callee (f := 49) rfl ?_); refine goesL_ (some 48) rfl rfl Try.func49 (by kernel_rfl) rfl #[.agg #[.int .i64 a0_0, .slice A0_1 l0_1.length c0_1], .int .i64 a1, .int .i64 a2, .int .i64 x12_1, .slice (some ad429) x3_1.length co16] rfl zM ?_; (with_reducible refine (spec_l07Behind.F_calls k1 (spec_l07Race.f k1) (ih k1 (by have := HK1.out; omega)) a0_0 _ _ l0_1 a1 a2 x12_1 (fun k_ => some k_ = (.slice (some ad429) x3_1.length co16 : Value).ownBlock) (.slice (some ad429) x3_1.length co16) x3_1 t431 t432 w0 _ ?side1 ?side2 ?side3 ?side4 A22.out).mono ?_); (case side1 => exact zH1 HB.out GE427.out); (case side2 => exact Kd.C_kept_call HR0_1.out (zK1 HK.out GW427.out) (fun k_ hs_ => (fun e_ => (HO_3.out.1 k_ e_.symm)) hs_)); (case side3 => exact HC0_1.out); (case side4 => exact Kd.R_tight rfl HO_3.out); rintro e w25 ⟨rfl, hy0, hb, hkp⟩; refine ⟨_, rfl, ?_⟩; refine zA4 (Kd.R_reok rfl hy0 (fun k_ e_ => HO_3.out.1 k_ e_)) (blk_kept (zB BK427.out) hkp (fun hs_ => (fun e_ => (Kd.R_ne HO_3.out BK427.out (by decide)) e_) hs_)) (Kept.then_ (S := (fun k_ => P3_ k_)) (zK1 HK.out GW427.out) hkp (fun k_ hs_ => (fun e_ => (HO_3.out.1 k_ e_.symm)) hs_)) (hb) ?_; clear HO_3 BK427 HK HB; intro HO_3 BK427 HK HB; (try clear hb); (try clear hkp); (try clear hy0)))
                  (try simp only [← hl3_1])
                  go_roundg k1
                  case measure => have := HK1.out; omega
                  case rel => exact ⟨(t432), (ji23), (true), (wrap64 (x12_1 + 1)), (by first | rfl | (simp; done) | (simp only [← hji23] <;> (first | rfl | simp)) | (simp [*]; done)), (zF), (zF), H', ⟨by have := HK1.out; omega⟩, ⟨by (try simp only [hl3_1]); exact zR HO_3.out⟩, ⟨by (try simp only [hl3_1]); exact zB BK427.out⟩, ⟨zK1 HK.out GW427.out⟩, ⟨zH1 HB.out GE427.out⟩⟩
                · rw [if_neg c21] at H
                  have c21b0 := zq3 c21
                  have c21b1 := zq4 c21
                  have H' := Aside0.mk H
                  clear H
                  obtain ⟨hcz26_0, hcz26_1⟩ := zc2 BK427
                  obtain ⟨hfz26_0, hfz26_1⟩ := zf2 BK427
                  go_wp2
                  (try simp only [← hl3_1])
                  go_roundg k1
                  case measure => have := HK1.out; omega
                  case rel => exact ⟨(x3_1), (x10_1), (x11_1), (wrap64 (x12_1 + 1)), (zF), (zF), (zF), H', ⟨by have := HK1.out; omega⟩, ⟨by (try simp only [hl3_1]); exact zR HO_3.out⟩, ⟨by (try simp only [hl3_1]); exact zB BK427.out⟩, ⟨zK1 HK.out GW427.out⟩, ⟨zH1 HB.out GE427.out⟩⟩
              · rw [if_neg c19] at H
                exact absurd H (by simp)
            · rw [if_neg c17] at H
              have c17b0 := decide_eq_false c17
              clear c17
              by_cases c27 : x11_1 = true
              · subst c27
                have H1 : (if 0 ≤ t428 then (if t428 < (x3_1.length : Int) then (some (x10_1, (x3_1.set (t428 : Int).toNat (IntKind.i8.wrap (wrap64 (x10_1 + 2)))))) else (none)) else (none)) = some (r1, r2) := by rw [if_pos rfl] at H; exact H
                clear H
                have H := H1
                clear H1
                by_cases c28 : 0 ≤ t428
                · rw [if_pos c28] at H
                  have c28b0 := decide_eq_true c28
                  clear c28
                  by_cases c29 : t428 < (x3_1.length : Int)
                  · rw [if_pos c29] at H
                    have c29b0 := decide_eq_true c29
                    clear c29
                    obtain ⟨y433, hy433⟩ : ∃ y_ : List Int, y_ = (x3_1.set (t428 : Int).toNat (IntKind.i8.wrap (wrap64 (x10_1 + 2)))) := ⟨_, rfl⟩
                    replace H : (some (x10_1, y433)) = some (r1, r2) := by first | (rw [hy433]; with_reducible exact H) | (have H2_ := (Option.bind_some _ _).symm.trans H; rw [hy433]; with_reducible exact H2_) | (have H2_ := (Option.bind_some _ _).symm.trans H; with_reducible exact H2_) | with_reducible exact H | (rw [hy433]; exact H) | exact H
                    have Ny433 := Aside0.mk hy433
                    clear hy433
                    simp only [Option.some.injEq, Prod.mk.injEq] at H
                    obtain ⟨rfl, rfl⟩ := H
                    obtain ⟨hcz31_0, hcz31_1⟩ := zc2 BK427
                    obtain ⟨hfz31_0, hfz31_1⟩ := zf2 BK427
                    have p30 : 0 ≤ (t428 : Int) := of_decide_eq_true (by first | (with_reducible assumption) | assumption)
                    have q30 : (t428 : Int) < ((x3_1.length : Int) : Int) := of_decide_eq_true (by first | (with_reducible assumption) | assumption)
                    obtain ⟨go30, co30, eo30, gb30, gl30, cl30, HG30⟩ := Kd.R_form HO_3.out (by omega)
                    (first | cases eo30 | (injection eo30 with ea_ en_ ec_; (first | subst ea_ | (injection ea_ with ea_; subst ea_)); subst ec_; clear en_))
                    have GB30 := Aside0.mk gb30
                    have GG30 := Aside0.mk HG30
                    clear gb30 gl30 HG30
                    have HMgo30 := Aside0.mk (show (P3_ go30 ∨ w.heap.size ≤ go30) from (HO_3.out.1 _ rfl))
                    (first | simp only [add_plain] at hx429_0 | skip)
                    (first | simp only [add_plain] at hx430_0 | skip)
                    obtain ⟨hx30_0, hf30_0⟩ := Kd.R_celln 0 HO_3.out (t428 : Int) p30 q30
                    replace p30 := eq_true p30
                    replace q30 := eq_true q30
                    have HP32 := Kd.R_putg HO_3.out (t428 : Int) (IntKind.i8.wrap (wrap64 (x10_1 + 2)))
                    go_wp2_with (first | ((with_reducible refine gate_store (t := 72) (p := 57) rfl ?_); refine store_event (t := 72) (p := 57) (v := ?vo_w33) (w1 := (wr.setCell ⟨go30, (t428 : Int).toNat, none⟩ (.int .i8 (IntKind.i8.wrap (wrap64 (x10_1 + 2)))))) ?hg ?ho ?hn ?hr ?_; (case ho => rfl); (case hg => rfl); (case hn => rfl); (case hr => first | (go_simp; done) | (go_simp; rfl)); intro w33 hw; have hg : wr.grownBy w33 (some go30) := (by rw [hw]; exact HP32.2); have hp_ : Kd.R (Kd.int .i8) 72 w33 w0.heap.size (fun k_ => (P3_ k_ ∨ w.heap.size ≤ k_)) (.slice (some ⟨go30, 0, none⟩) x3_1.length co16) y433 := (by rw [hw, Ny433.out]; exact HP32.1); clear HP32; refine zA4 (hp_) (blk_grown (g := gb427) (o := .cells #[.int .i64 a0_0, .slice A0_1 l0_1.length c0_1] 26 (0, 0)) (zB BK427.out) hg (Kd.R_ne HO_3.out BK427.out (by decide))) ((by rw [hw]; exact below_set (HB.out) GB30.out : Below w0.heap.size w0 w33)) (Kept.of_grown (S := (fun k_ => P3_ k_)) hg (zK1 HK.out GW427.out) (fun k_ e_ => (HO_3.out.1 k_ e_))) ?_; clear HO_3 BK427 HB HK; intro HO_3 BK427 HB HK; clear hg hw hp_))
                    go_ret
                    exact ⟨zE, (by first | exact (zR HO_3.out) | (simp only [hl3_1]; exact (zR HO_3.out))), zH1 HB.out GE427.out, zK1 HK.out GW427.out⟩
                  · rw [if_neg c29] at H
                    exact absurd H (by simp)
                · rw [if_neg c28] at H
                  exact absurd H (by simp)
              · replace c27 := Bool.eq_false_iff.mpr c27
                subst c27
                have H1 : (if 0 ≤ t428 then (if t428 < (x3_1.length : Int) then (some (0, (x3_1.set (t428 : Int).toNat (0 + 2)))) else (none)) else (none)) = some (r1, r2) := by rw [if_neg (show ¬ (false = true) by decide)] at H; exact H
                clear H
                have H := H1
                clear H1
                by_cases c34 : 0 ≤ t428
                · rw [if_pos c34] at H
                  have c34b0 := decide_eq_true c34
                  clear c34
                  by_cases c35 : t428 < (x3_1.length : Int)
                  · rw [if_pos c35] at H
                    have c35b0 := decide_eq_true c35
                    clear c35
                    obtain ⟨y434, hy434⟩ : ∃ y_ : List Int, y_ = (x3_1.set (t428 : Int).toNat (0 + 2)) := ⟨_, rfl⟩
                    replace H : (some (0, y434)) = some (r1, r2) := by first | (rw [hy434]; with_reducible exact H) | (have H2_ := (Option.bind_some _ _).symm.trans H; rw [hy434]; with_reducible exact H2_) | (have H2_ := (Option.bind_some _ _).symm.trans H; with_reducible exact H2_) | with_reducible exact H | (rw [hy434]; exact H) | exact H
                    have Ny434 := Aside0.mk hy434
                    clear hy434
                    simp only [Option.some.injEq, Prod.mk.injEq] at H
                    obtain ⟨rfl, rfl⟩ := H
                    obtain ⟨hcz37_0, hcz37_1⟩ := zc2 BK427
                    obtain ⟨hfz37_0, hfz37_1⟩ := zf2 BK427
                    have p36 : 0 ≤ (t428 : Int) := of_decide_eq_true (by first | (with_reducible assumption) | assumption)
                    have q36 : (t428 : Int) < ((x3_1.length : Int) : Int) := of_decide_eq_true (by first | (with_reducible assumption) | assumption)
                    obtain ⟨go36, co36, eo36, gb36, gl36, cl36, HG36⟩ := Kd.R_form HO_3.out (by omega)
                    (first | cases eo36 | (injection eo36 with ea_ en_ ec_; (first | subst ea_ | (injection ea_ with ea_; subst ea_)); subst ec_; clear en_))
                    have GB36 := Aside0.mk gb36
                    have GG36 := Aside0.mk HG36
                    clear gb36 gl36 HG36
                    have HMgo36 := Aside0.mk (show (P3_ go36 ∨ w.heap.size ≤ go36) from (HO_3.out.1 _ rfl))
                    obtain ⟨hx36_0, hf36_0⟩ := Kd.R_celln 0 HO_3.out (t428 : Int) p36 q36
                    replace p36 := eq_true p36
                    replace q36 := eq_true q36
                    have HP38 := Kd.R_putg HO_3.out (t428 : Int) (0 + 2)
                    go_wp2_with (first | ((with_reducible refine gate_store (t := 72) (p := 57) rfl ?_); refine store_event (t := 72) (p := 57) (v := ?vo_w39) (w1 := (wr.setCell ⟨go36, (t428 : Int).toNat, none⟩ (.int .i8 (0 + 2)))) ?hg ?ho ?hn ?hr ?_; (case ho => rfl); (case hg => rfl); (case hn => rfl); (case hr => first | (go_simp; done) | (go_simp; rfl)); intro w39 hw; have hg : wr.grownBy w39 (some go36) := (by rw [hw]; exact HP38.2); have hp_ : Kd.R (Kd.int .i8) 72 w39 w0.heap.size (fun k_ => (P3_ k_ ∨ w.heap.size ≤ k_)) (.slice (some ⟨go36, 0, none⟩) x3_1.length co16) y434 := (by rw [hw, Ny434.out]; exact HP38.1); clear HP38; refine zA4 (hp_) (blk_grown (g := gb427) (o := .cells #[.int .i64 a0_0, .slice A0_1 l0_1.length c0_1] 26 (0, 0)) (zB BK427.out) hg (Kd.R_ne HO_3.out BK427.out (by decide))) ((by rw [hw]; exact below_set (HB.out) GB36.out : Below w0.heap.size w0 w39)) (Kept.of_grown (S := (fun k_ => P3_ k_)) hg (zK1 HK.out GW427.out) (fun k_ e_ => (HO_3.out.1 k_ e_))) ?_; clear HO_3 BK427 HB HK; intro HO_3 BK427 HB HK; clear hg hw hp_))
                    go_ret
                    exact ⟨zE, (by first | exact (zR HO_3.out) | (simp only [hl3_1]; exact (zR HO_3.out))), zH1 HB.out GE427.out, zK1 HK.out GW427.out⟩
                  · rw [if_neg c35] at H
                    exact absurd H (by simp)
                · rw [if_neg c34] at H
                  exact absurd H (by simp)
    · rw [if_neg c7] at H
      exact absurd H (by simp)
  · rw [if_neg c6] at H
    exact absurd H (by simp)
end Go.Proofs.Ytbmkhdeeengbmaa.Q
