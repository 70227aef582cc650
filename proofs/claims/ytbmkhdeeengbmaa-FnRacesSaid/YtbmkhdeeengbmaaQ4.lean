-- Written by a program of this session (wip/tools/px.sh) over the seat's translation; Lean checks it.
import Derived.Test.YtbmkhdeeengbmaaQ0
import Derived.Test.YtbmkhdeeengbmaaSq
import Derived.Test.YtbmkhdeeengbmaaQ1
import Derived.Test.YtbmkhdeeengbmaaQ2
import Derived.Test.YtbmkhdeeengbmaaQ3
namespace Go.Proofs.Ytbmkhdeeengbmaa.Q
open Go.RowKit Go.Proofs.YtbmkhdeeengbmaaW.PrintWords Go.Proofs.YtbmkhdeeengbmaaW.PrintLast Go.Proofs.YtbmkhdeeengbmaaW.PrintMore
attribute [local go_sem] max2_int min2_int max_two min_two max_three min_three max_four min_four   -- for this text's walks alone
set_option linter.unusedVariables false
set_option linter.unusedSimpArgs false

/-! ### spec_l07Is: function 53 -/
mutual
def spec_l07Is.j0 : Nat → Bool → Int → List Int → Option (Bool)
  | 0, _, _, _ => none
  | k + 1, x13, x410000, x410001 => if x13 = true then (some false) else (spec_l07Is.l0 k 0 x410000 x410001)
def spec_l07Is.l0 : Nat → Int → Int → List Int → Option (Bool)
  | 0, _, _, _ => none
  | k + 1, x3, x410000, x410001 => if x3 < (x410001.length : Int) then (if 0 ≤ x3 then (if 0 ≤ (IntKind.u64.wrap (x410000)) then ((spec_l01In.f (rd x410001 x3) 1 (wrap64 ((shl .i64 1 (IntKind.u64.wrap (x410000))) - 1))).bind fun t412 => (if t412 = true then (if x3 > 0 then (if 0 ≤ (wrap64 (x3 - 1)) then (if (wrap64 (x3 - 1)) < (x410001.length : Int) then (if (rd x410001 x3) ≤ (rd x410001 (wrap64 (x3 - 1))) then (some false) else (spec_l07Is.l0 k (wrap64 (x3 + 1)) x410000 x410001)) else (none)) else (none)) else (spec_l07Is.l0 k (wrap64 (x3 + 1)) x410000 x410001)) else (some false))) else (none)) else (none)) else (some true)
end
def spec_l07Is.f (k : Nat) (a0_0 : Int) (l0_1 : List Int) : Option (Bool) := (spec_l01In.f a0_0 1 16).bind fun t410 => (if t410 = true then (spec_l07Is.j0 k (decide ((l0_1.length : Int) > 100)) a0_0 l0_1) else (spec_l07Is.j0 k true a0_0 l0_1))
theorem spec_l07Is.mono_l : ∀ k, (∀ y0 y1 y2, LeO (spec_l07Is.j0 k y0 y1 y2) (spec_l07Is.j0 (k + 1) y0 y1 y2)) ∧ (∀ y0 y1 y2, LeO (spec_l07Is.l0 k y0 y1 y2) (spec_l07Is.l0 (k + 1) y0 y1 y2))
  | 0 => ⟨fun _ _ _ r h => by simp [spec_l07Is.j0] at h, fun _ _ _ r h => by simp [spec_l07Is.l0] at h⟩
  | k + 1 => by
    obtain ⟨ih0, ih1⟩ := spec_l07Is.mono_l k
    refine ⟨?_, ?_⟩
    · intro y0 y1 y2
      unfold spec_l07Is.j0
      repeat' first
      | (with_reducible exact ih0 _ _ _)
      | (with_reducible exact ih1 _ _ _)
      | (with_reducible exact LeO.refl _)
      | (with_reducible exact LeO.none _)
      | (with_reducible refine LeO.ite ?_ ?_)
      | (with_reducible refine LeO.bind ?_ (fun _ => ?_))
      | exact ih0 _ _ _
      | exact ih1 _ _ _
      | exact LeO.none _
      | refine LeO.ite ?_ ?_
      | refine LeO.bind ?_ (fun _ => ?_)
    · intro y0 y1 y2
      unfold spec_l07Is.l0
      repeat' first
      | (with_reducible exact ih0 _ _ _)
      | (with_reducible exact ih1 _ _ _)
      | (with_reducible exact LeO.refl _)
      | (with_reducible exact LeO.none _)
      | (with_reducible refine LeO.ite ?_ ?_)
      | (with_reducible refine LeO.bind ?_ (fun _ => ?_))
      | exact ih0 _ _ _
      | exact ih1 _ _ _
      | exact LeO.none _
      | refine LeO.ite ?_ ?_
      | refine LeO.bind ?_ (fun _ => ?_)
theorem spec_l07Is.mono : ∀ a0 a1 k, LeO (spec_l07Is.f k a0 a1) (spec_l07Is.f (k + 1) a0 a1) := by
  intro a0 a1 k
  obtain ⟨ih0, ih1⟩ := spec_l07Is.mono_l k
  unfold spec_l07Is.f
  repeat' first
      | (with_reducible exact ih0 _ _ _)
      | (with_reducible exact ih1 _ _ _)
      | (with_reducible exact LeO.refl _)
      | (with_reducible exact LeO.none _)
      | (with_reducible refine LeO.ite ?_ ?_)
      | (with_reducible refine LeO.bind ?_ (fun _ => ?_))
      | exact ih0 _ _ _
      | exact ih1 _ _ _
      | exact LeO.none _
      | refine LeO.ite ?_ ?_
      | refine LeO.bind ?_ (fun _ => ?_)
def spec_l07Is.T6 : Bool × List (List Nat × List Nat) := (true, [([], []), ([0], [0]), ([], []), ([1, 2], [1, 2]), ([3], [3]), ([], []), ([5], [5]), ([6], [6]), ([7], [7]), ([8], [8]), ([4, 9], [4, 9]), ([10], [10]), ([11, 10], [11]), ([12], [12]), ([13, 12], [12, 13]), ([14, 12, 12], [12, 14]), ([15], [15]), ([16, 15], [15, 16]), ([15], [15]), ([17, 18, 15], [15, 17, 18]), ([19, 15], [15, 19]), ([15], [15]), ([21, 15], [15, 21]), ([15], [15]), ([23, 15], [15, 23]), ([22, 24, 15], [15, 22, 24]), ([25, 15], [15, 25]), ([20, 26, 15], [15, 20, 26]), ([15, 27, 12], [12, 15, 27]), ([12, 28], [12, 28])])
def spec_l07Is.B6 : List Nat := [0, 1, 0, 7, 15, 0, 32, 96, 224, 480, 1023, 2047, 4095, 8191, 16383, 32767, 65535, 131071, 65535, 524287, 1048575, 65535, 2162687, 65535, 8454143, 31522815, 65077247, 134217727, 268435455, 536870911]
theorem spec_l07Is.tab6 : rtab .any (opsOf Try.f53 6) = spec_l07Is.T6 := by kernel_rfl
theorem spec_l07Is.bits6 : waitsOk spec_l07Is.T6.2 spec_l07Is.B6 = true := by kernel_rfl
set_option maxHeartbeats 8000000 in
set_option maxRecDepth 100000 in
theorem spec_l07Is.calls (k : Nat) (a0_0 : Int) (A0_1 : Option Addr) (c0_1 : Nat) (l0_1 : List Int) (r : Bool) (w : World) (hr0_1 : Kd.C (Kd.int .i64) w A0_1 l0_1.length l0_1) (hc0_1 : l0_1.length ≤ c0_1) (h : spec_l07Is.f k a0_0 l0_1 = some r) :
    Calls Try.prog 53 #[.agg #[.int .i64 a0_0, .slice A0_1 l0_1.length c0_1]] w fun e w' => e = .returned (.bool r) ∧ Below w.heap.size w w' := by
  have hu26 := Try.underlying26
  have HR0_1 := Aside0.mk hr0_1
  have HC0_1 := Aside0.mk hc0_1
  clear hr0_1 hc0_1
  have HB := Aside0.mk (Below.refl w.heap.size w)
  have H : ((spec_l01In.f a0_0 1 16).bind fun t410 => (if t410 = true then (spec_l07Is.j0 k (decide ((l0_1.length : Int) > 100)) a0_0 l0_1) else (spec_l07Is.j0 k true a0_0 l0_1))) = some r := h
  clear h
  have HC2 := Aside0.mk H
  clear H
  go_enter Try.func53, Try.ntmps53
  go_upto_region 1 with (first | ((with_reducible refine gate_dst (N := 1) rfl ?_); (try (refine gate_guard (by rfl) ?_; dsimp only)); refine zX 1 #[.int .i64 a0_0, .slice A0_1 l0_1.length c0_1] 26 ?_; intro gb409 hg w3 hbox hb; refine zA4 (below_step (zH HB.out) hb) (hbox) ((zS hg (below_size (zH HB.out)) : w.heap.size ≤ gb409)) ((zS hg (below_size (zH HB.out)) : w.heap.size ≤ gb409)) ?_; clear HB; intro HB BK409 GW409 GE409; clear hb hbox hg))
  (try simp only [Act.put, List.setIfInBounds_toArray, List.set_cons_zero, List.set_cons_succ])
  go_cut [13] (fun v13 wc => ∃ (kq : Nat) (x13_1 : Bool), v13 = .bool x13_1 ∧ Aside0 (spec_l07Is.j0 kq x13_1 a0_0 l0_1 = some r) ∧ Aside0 (kq ≤ k) ∧ Aside0 (wc.heap[gb409]? = some (.cells #[.int .i64 a0_0, (.slice A0_1 l0_1.length c0_1)] 26 (0, 0))) ∧ Aside0 (Below w.heap.size w wc))
  case first =>
    have H := HC2.out
    clear HC2
    obtain ⟨t410, A4, H⟩ := zb H
    by_cases c5 : t410 = true
    · subst c5
      have H1 : (spec_l07Is.j0 k (decide ((l0_1.length : Int) > 100)) a0_0 l0_1) = some r := by rw [if_pos rfl] at H; exact H
      clear H
      have H := H1
      clear H1
      have H' := Aside0.mk H
      clear H
      obtain ⟨hcz6_0, hcz6_1⟩ := zc2 BK409
      obtain ⟨hfz6_0, hfz6_1⟩ := zf2 BK409
      go_wp2_with (first | ((with_reducible refine gate_callee (f := 54) rfl ?_); refine goesL_ (some 6) rfl rfl Try.func54 (by kernel_rfl) rfl #[.int .i64 a0_0, .int .i64 1, .int .i64 16] rfl zM ?_; (with_reducible refine (spec_l01In.calls a0_0 1 16 true _ A4.out).mono ?_); rintro e w' ⟨rfl, ⟨nd, rfl⟩⟩; refine ⟨_, rfl, ?_⟩))
      go_meet
      case rel => exact ⟨_, (decide ((l0_1.length : Int) > 100)), (zF), H', ⟨by first | omega | exact Nat.le_refl _⟩, ⟨zB BK409.out⟩, ⟨zH1 HB.out GE409.out⟩⟩
    · replace c5 := Bool.eq_false_iff.mpr c5
      subst c5
      have H1 : (spec_l07Is.j0 k true a0_0 l0_1) = some r := by rw [if_neg (show ¬ (false = true) by decide)] at H; exact H
      clear H
      have H := H1
      clear H1
      have H' := Aside0.mk H
      clear H
      obtain ⟨hcz7_0, hcz7_1⟩ := zc2 BK409
      obtain ⟨hfz7_0, hfz7_1⟩ := zf2 BK409
      go_wp2_with (first | ((with_reducible refine gate_callee (f := 54) rfl ?_); refine goesL_ (some 6) rfl rfl Try.func54 (by kernel_rfl) rfl #[.int .i64 a0_0, .int .i64 1, .int .i64 16] rfl zM ?_; (with_reducible refine (spec_l01In.calls a0_0 1 16 false _ A4.out).mono ?_); rintro e w' ⟨rfl, ⟨nd, rfl⟩⟩; refine ⟨_, rfl, ?_⟩))
      go_meet
      case rel => exact ⟨_, (true), (zF), H', ⟨by first | omega | exact Nat.le_refl _⟩, ⟨zB BK409.out⟩, ⟨zH1 HB.out GE409.out⟩⟩
  case rest =>
    clear HC2
    try clear p2
    try clear c5
    try clear hcz6_0
    try clear hcz6_1
    try clear hcz7_0
    try clear hcz7_1
    try clear hfz6_0
    try clear hfz6_1
    try clear hfz7_0
    try clear hfz7_1
    obtain ⟨kq, x13_1, rfl, HA, HJ1, BK409, HB⟩ := hcut
    cases kq with
    | zero => exact absurd HA.out (by simp [spec_l07Is.j0])
    | succ kj1 =>
      have H := HA.out
      clear HA
      simp only [spec_l07Is.j0] at H
      by_cases c8 : x13_1 = true
      · subst c8
        have H1 : (some false) = some r := by rw [if_pos rfl] at H; exact H
        clear H
        have H := H1
        clear H1
        obtain rfl := Option.some.inj H
        go_wp2
        go_ret
        exact ⟨zE, zH1 HB.out GE409.out⟩
      · replace c8 := Bool.eq_false_iff.mpr c8
        subst c8
        have H1 : (spec_l07Is.l0 kj1 0 a0_0 l0_1) = some r := by rw [if_neg (show ¬ (false = true) by decide)] at H; exact H
        clear H
        have H := H1
        clear H1
        have H' := Aside0.mk H
        clear H
        go_wp2
        go_loopg [3] kj1 (fun kq v3 w' => ∃ (x3_2 : Int), v3 = .int .i64 x3_2 ∧ Aside0 (spec_l07Is.l0 kq x3_2 a0_0 l0_1 = some r) ∧ Aside0 (kq ≤ kj1) ∧ Aside0 (w'.heap[gb409]? = some (.cells #[.int .i64 a0_0, (.slice A0_1 l0_1.length c0_1)] 26 (0, 0))) ∧ Aside0 (Below w.heap.size w w'))
        case atStart => exact ⟨(0), (zF), H', ⟨Nat.le_refl _⟩, ⟨zB BK409.out⟩, ⟨zH1 HB.out GE409.out⟩⟩
        case round =>
          clear H'
          try clear p2
          try clear c5
          try clear c8
          try clear hcz6_0
          try clear hcz6_1
          try clear hcz7_0
          try clear hcz7_1
          try clear hfz6_0
          try clear hfz6_1
          try clear hfz7_0
          try clear hfz7_1
          try clear p2
          obtain ⟨x3_2, rfl, HA, HK2, BK409, HB⟩ := hrel
          cases gk with
          | zero => exact absurd HA.out (by simp [spec_l07Is.l0])
          | succ k2 =>
            have H := HA.out
            clear HA
            simp only [spec_l07Is.l0] at H
            by_cases c9 : x3_2 < (l0_1.length : Int)
            · rw [if_pos c9] at H
              have c9b0 := decide_eq_true c9
              clear c9
              by_cases c10 : 0 ≤ x3_2
              · rw [if_pos c10] at H
                have c10b0 := decide_eq_true c10
                clear c10
                obtain ⟨ji11, hji11⟩ := zj (IntKind.u64.wrap (a0_0))
                (first | rw [hji11] at H | simp only [hji11] at H)
                by_cases c12 : 0 ≤ (ji11)
                · rw [if_pos c12] at H
                  have c12b0 := eq_true c12
                  have c12b1 := decide_eq_true c12
                  clear c12
                  obtain ⟨ji13, hji13⟩ := zj (shl .i64 1 (ji11))
                  (first | rw [hji13] at H | simp only [hji13] at H)
                  have hji13_ : (IntKind.i64.wrap (1 * 2 ^ min (ji11).toNat 64)) = ji13 := hji13
                  have hji13z : (ji11) ≤ 64 → (IntKind.i64.wrap (1 * 2 ^ (ji11).toNat)) = ji13 := shl_small hji13
                  have hji13u : (IntKind.i64.wrap (2 ^ min (ji11).toNat 64)) = ji13 := by have h_ := hji13_; rw [Int.one_mul] at h_; exact h_
                  have hji13v : (ji11) ≤ 64 → (IntKind.i64.wrap (2 ^ (ji11).toNat)) = ji13 := fun hle_ => by have h_ := hji13z hle_; rw [Int.one_mul] at h_; exact h_
                  have hji13y : (wrap64 (1 * 2 ^ min (ji11).toNat 64)) = ji13 := (i64_w _).symm.trans hji13_
                  have hji13x : (ji11) ≤ 64 → (wrap64 (1 * 2 ^ (ji11).toNat)) = ji13 := fun h_ => (i64_w _).symm.trans (hji13z h_)
                  obtain ⟨t412, A14, H⟩ := zb H
                  by_cases c15 : t412 = true
                  · subst c15
                    have H1 : (if x3_2 > 0 then (if 0 ≤ (wrap64 (x3_2 - 1)) then (if (wrap64 (x3_2 - 1)) < (l0_1.length : Int) then (if (rd l0_1 x3_2) ≤ (rd l0_1 (wrap64 (x3_2 - 1))) then (some false) else (spec_l07Is.l0 k2 (wrap64 (x3_2 + 1)) a0_0 l0_1)) else (none)) else (none)) else (spec_l07Is.l0 k2 (wrap64 (x3_2 + 1)) a0_0 l0_1)) = some r := by rw [if_pos rfl] at H; exact H
                    clear H
                    have H := H1
                    clear H1
                    by_cases c16 : x3_2 > 0
                    · rw [if_pos c16] at H
                      have c16b0 := decide_eq_true c16
                      clear c16
                      obtain ⟨ji17, hji17⟩ := zj (wrap64 (x3_2 - 1))
                      (first | rw [hji17] at H | simp only [hji17] at H)
                      (try rw [hji17] at A14)
                      have hji17w : (IntKind.i64.wrap (x3_2 - 1)) = ji17 := (i64_w _).trans hji17
                      by_cases c18 : 0 ≤ (ji17)
                      · rw [if_pos c18] at H
                        have c18b0 := decide_eq_true c18
                        clear c18
                        by_cases c19 : (ji17) < (l0_1.length : Int)
                        · rw [if_pos c19] at H
                          have c19b0 := decide_eq_true c19
                          clear c19
                          by_cases c20 : (rd l0_1 x3_2) ≤ (rd l0_1 (ji17))
                          · rw [if_pos c20] at H
                            have c20b0 := decide_eq_true c20
                            clear c20
                            obtain rfl := Option.some.inj H
                            obtain ⟨hcz21_0, hcz21_1⟩ := zc2 BK409
                            obtain ⟨hfz21_0, hfz21_1⟩ := zf2 BK409
                            try go_wp2
                            refine zA2 (blk_drew BK409.out) (below_drew1 HB.out) ?_
                            clear BK409 HB
                            intro BK409 HB
                            have p411 : 0 ≤ (x3_2 : Int) := of_decide_eq_true (by first | (with_reducible assumption) | assumption)
                            have q411 : x3_2 < (l0_1.length : Int) := of_decide_eq_true (by first | (with_reducible assumption) | assumption)
                            obtain ⟨ad411, e411, hx411_0⟩ := Kd.at_int HR0_1.out x3_2 p411 q411
                            have hw411_0 := hx411_0
                            cases e411
                            replace hx411_0 := (HB.out.cell (World.block_lt_of_cell? w _ hx411_0)).trans hx411_0
                            replace p411 := eq_true p411
                            replace q411 := eq_true q411
                            have p413 : 0 ≤ (x3_2 : Int) := of_decide_eq_true (by first | (with_reducible assumption) | assumption)
                            have q413 : x3_2 < (l0_1.length : Int) := of_decide_eq_true (by first | (with_reducible assumption) | assumption)
                            obtain ⟨ad413, e413, hx413_0⟩ := Kd.at_int HR0_1.out x3_2 p413 q413
                            have hw413_0 := hx413_0
                            obtain rfl : ad411 = ad413 := (by injection e413)
                            replace hx413_0 := (HB.out.cell (World.block_lt_of_cell? w _ hx413_0)).trans hx413_0
                            replace p413 := eq_true p413
                            replace q413 := eq_true q413
                            have p414 : 0 ≤ ((ji17) : Int) := of_decide_eq_true (by first | (with_reducible assumption) | assumption)
                            have q414 : (ji17) < (l0_1.length : Int) := of_decide_eq_true (by first | (with_reducible assumption) | assumption)
                            obtain ⟨ad414, e414, hx414_0⟩ := Kd.at_int HR0_1.out (ji17) p414 q414
                            have hw414_0 := hx414_0
                            obtain rfl : ad411 = ad414 := (by injection e414)
                            replace hx414_0 := (HB.out.cell (World.block_lt_of_cell? w _ hx414_0)).trans hx414_0
                            replace p414 := eq_true p414
                            replace q414 := eq_true q414
                            refine start_ (n := 30) (S := fun w' => w'.cell? ⟨gb409, 0, none⟩ = some (.int .i64 a0_0) ∧ w'.cell? ⟨gb409, 1, none⟩ = some (.slice (some ad411) l0_1.length c0_1) ∧ w'.cell? (ad411.add (x3_2).toNat) = some (.int .i64 (rd l0_1 x3_2)) ∧ w'.cell? (ad411.add (x3_2).toNat) = some (.int .i64 (rd l0_1 x3_2)) ∧ w'.cell? (ad411.add ((ji17)).toNat) = some (.int .i64 (rd l0_1 (ji17)))) (ds := []) #[false, false, false, false, false, false, false, false, false, false, false, false, false, false, false, false, false, false, false, false, false, false, false, false, false, false, false, false, false, false] (by kernel_rfl) rfl rfl ⟨(blk_cell BK409.out 0).trans rfl, (blk_cell BK409.out 1).trans rfl, ((HB.out.cell (World.block_lt_of_cell? w _ hw411_0)).trans hw411_0), ((HB.out.cell (World.block_lt_of_cell? w _ hw413_0)).trans hw413_0), ((HB.out.cell (World.block_lt_of_cell? w _ hw414_0)).trans hw414_0)⟩ (fun hHeld => ?_); refine with_tabW spec_l07Is.tab6 spec_l07Is.bits6 (fun HT_ HW_ => ?_)
                            generalize wr.drew = w22 at BK409 HB hx411_0 hx413_0 hx414_0 hHeld ⊢
                            refine zP HT_ 0 (some 21) rfl rfl ?_
                            refine zP HT_ 2 (some 23) rfl rfl ?_
                            refine zP HT_ 5 (some 26) rfl rfl ?_
                            refine zT HT_ HW_ hHeld 1 (some 22) rfl rfl ?_
                            refine zP HT_ 3 (some 24) rfl rfl ?_
                            refine zT HT_ HW_ hHeld 4 (some 25) rfl rfl ?_
                            refine zT HT_ HW_ hHeld 6 (some 27) rfl rfl ?_
                            refine zP HT_ 7 (some 28) rfl rfl ?_
                            refine zP HT_ 8 (some 29) rfl rfl ?_
                            refine zP HT_ 9 (some 30) rfl rfl ?_
                            refine one_ (i := 10) (N := some 31) #[true, true, true, true, true, true, true, true, true, true, true, false, false, false, false, false, false, false, false, false, false, false, false, false, false, false, false, false, false, false] rfl rfl (one_of HT_.out (by kernel_rfl)) (by decide) (fun K hK => ?_)
                            refine goes_ Try.func54 (by kernel_rfl) rfl #[.int .i64 (rd l0_1 x3_2), .int .i64 1, .int .i64 (wrap64 ((ji13) - 1))] (by rfl) rfl rfl (zM1 hji13) ?_
                            with_reducible refine (spec_l01In.calls (rd l0_1 x3_2) 1 (wrap64 ((ji13) - 1)) true _ A14.out).mono ?_
                            rintro e w' ⟨rfl, ⟨nd, rfl⟩⟩
                            refine ⟨_, rfl, ?_⟩
                            refine hK.out _ _ ⟨(blk_cell BK409.out 0).trans rfl, (blk_cell BK409.out 1).trans rfl, ((HB.out.cell (World.block_lt_of_cell? w _ hw411_0)).trans hw411_0), ((HB.out.cell (World.block_lt_of_cell? w _ hw413_0)).trans hw413_0), ((HB.out.cell (World.block_lt_of_cell? w _ hw414_0)).trans hw414_0)⟩ (fun hHeld => ?_)
                            clear hK K
                            refine zW (some 31) ?_
                            refine zP HT_ 11 (some 32) rfl rfl ?_
                            refine zP HT_ 12 (some 33) rfl rfl ?_
                            refine zP HT_ 13 (some 34) rfl rfl ?_
                            refine zP HT_ 14 (some 35) rfl rfl ?_
                            refine zP HT_ 15 (some 36) rfl rfl ?_
                            refine zP HT_ 16 (some 37) rfl rfl ?_
                            refine zP HT_ 18 (some 39) rfl rfl ?_
                            refine zP HT_ 21 (some 42) rfl rfl ?_
                            refine zP HT_ 23 (some 44) rfl rfl ?_
                            refine zP HT_ 24 (some 45) rfl rfl ?_
                            refine zT HT_ HW_ hHeld 17 (some 38) rfl rfl ?_
                            refine zP HT_ 19 (some 40) rfl rfl ?_
                            refine zT HT_ HW_ hHeld 20 (some 41) rfl rfl ?_
                            refine zT HT_ HW_ hHeld 22 (some 43) rfl rfl ?_
                            refine zP HT_ 25 (some 46) rfl rfl ?_
                            refine zT HT_ HW_ hHeld 26 (some 47) rfl rfl ?_
                            refine zP HT_ 27 (some 48) rfl rfl ?_
                            refine zP HT_ 28 (some 49) rfl rfl ?_
                            refine zP HT_ 29 (some 50) rfl rfl ?_
                            refine done_ (done_of HT_.out (by kernel_rfl)) ?_
                            try go_wp2
                            go_ret
                            exact ⟨by first | rfl | (simp [errW_none, errW_some] <;> rfl) | (simp only [← hji11, ← hji13, ← hji17]; first | rfl | (simp [errW_none, errW_some] <;> rfl)) | (simp [*, errW_none, errW_some] <;> rfl), zH1 HB.out GE409.out⟩
                          · rw [if_neg c20] at H
                            have c20b0 := decide_eq_false c20
                            clear c20
                            have H' := Aside0.mk H
                            clear H
                            obtain ⟨hcz23_0, hcz23_1⟩ := zc2 BK409
                            obtain ⟨hfz23_0, hfz23_1⟩ := zf2 BK409
                            try go_wp2
                            refine zA2 (blk_drew BK409.out) (below_drew1 HB.out) ?_
                            clear BK409 HB
                            intro BK409 HB
                            have p411 : 0 ≤ (x3_2 : Int) := of_decide_eq_true (by first | (with_reducible assumption) | assumption)
                            have q411 : x3_2 < (l0_1.length : Int) := of_decide_eq_true (by first | (with_reducible assumption) | assumption)
                            obtain ⟨ad411, e411, hx411_0⟩ := Kd.at_int HR0_1.out x3_2 p411 q411
                            have hw411_0 := hx411_0
                            cases e411
                            replace hx411_0 := (HB.out.cell (World.block_lt_of_cell? w _ hx411_0)).trans hx411_0
                            replace p411 := eq_true p411
                            replace q411 := eq_true q411
                            have p413 : 0 ≤ (x3_2 : Int) := of_decide_eq_true (by first | (with_reducible assumption) | assumption)
                            have q413 : x3_2 < (l0_1.length : Int) := of_decide_eq_true (by first | (with_reducible assumption) | assumption)
                            obtain ⟨ad413, e413, hx413_0⟩ := Kd.at_int HR0_1.out x3_2 p413 q413
                            have hw413_0 := hx413_0
                            obtain rfl : ad411 = ad413 := (by injection e413)
                            replace hx413_0 := (HB.out.cell (World.block_lt_of_cell? w _ hx413_0)).trans hx413_0
                            replace p413 := eq_true p413
                            replace q413 := eq_true q413
                            have p414 : 0 ≤ ((ji17) : Int) := of_decide_eq_true (by first | (with_reducible assumption) | assumption)
                            have q414 : (ji17) < (l0_1.length : Int) := of_decide_eq_true (by first | (with_reducible assumption) | assumption)
                            obtain ⟨ad414, e414, hx414_0⟩ := Kd.at_int HR0_1.out (ji17) p414 q414
                            have hw414_0 := hx414_0
                            obtain rfl : ad411 = ad414 := (by injection e414)
                            replace hx414_0 := (HB.out.cell (World.block_lt_of_cell? w _ hx414_0)).trans hx414_0
                            replace p414 := eq_true p414
                            replace q414 := eq_true q414
                            refine start_ (n := 30) (S := fun w' => w'.cell? ⟨gb409, 0, none⟩ = some (.int .i64 a0_0) ∧ w'.cell? ⟨gb409, 1, none⟩ = some (.slice (some ad411) l0_1.length c0_1) ∧ w'.cell? (ad411.add (x3_2).toNat) = some (.int .i64 (rd l0_1 x3_2)) ∧ w'.cell? (ad411.add (x3_2).toNat) = some (.int .i64 (rd l0_1 x3_2)) ∧ w'.cell? (ad411.add ((ji17)).toNat) = some (.int .i64 (rd l0_1 (ji17)))) (ds := []) #[false, false, false, false, false, false, false, false, false, false, false, false, false, false, false, false, false, false, false, false, false, false, false, false, false, false, false, false, false, false] (by kernel_rfl) rfl rfl ⟨(blk_cell BK409.out 0).trans rfl, (blk_cell BK409.out 1).trans rfl, ((HB.out.cell (World.block_lt_of_cell? w _ hw411_0)).trans hw411_0), ((HB.out.cell (World.block_lt_of_cell? w _ hw413_0)).trans hw413_0), ((HB.out.cell (World.block_lt_of_cell? w _ hw414_0)).trans hw414_0)⟩ (fun hHeld => ?_); refine with_tabW spec_l07Is.tab6 spec_l07Is.bits6 (fun HT_ HW_ => ?_)
                            generalize wr.drew = w24 at BK409 HB hx411_0 hx413_0 hx414_0 hHeld ⊢
                            refine zP HT_ 0 (some 21) rfl rfl ?_
                            refine zP HT_ 2 (some 23) rfl rfl ?_
                            refine zP HT_ 5 (some 26) rfl rfl ?_
                            refine zT HT_ HW_ hHeld 1 (some 22) rfl rfl ?_
                            refine zP HT_ 3 (some 24) rfl rfl ?_
                            refine zT HT_ HW_ hHeld 4 (some 25) rfl rfl ?_
                            refine zT HT_ HW_ hHeld 6 (some 27) rfl rfl ?_
                            refine zP HT_ 7 (some 28) rfl rfl ?_
                            refine zP HT_ 8 (some 29) rfl rfl ?_
                            refine zP HT_ 9 (some 30) rfl rfl ?_
                            refine one_ (i := 10) (N := some 31) #[true, true, true, true, true, true, true, true, true, true, true, false, false, false, false, false, false, false, false, false, false, false, false, false, false, false, false, false, false, false] rfl rfl (one_of HT_.out (by kernel_rfl)) (by decide) (fun K hK => ?_)
                            refine goes_ Try.func54 (by kernel_rfl) rfl #[.int .i64 (rd l0_1 x3_2), .int .i64 1, .int .i64 (wrap64 ((ji13) - 1))] (by rfl) rfl rfl (zM1 hji13) ?_
                            with_reducible refine (spec_l01In.calls (rd l0_1 x3_2) 1 (wrap64 ((ji13) - 1)) true _ A14.out).mono ?_
                            rintro e w' ⟨rfl, ⟨nd, rfl⟩⟩
                            refine ⟨_, rfl, ?_⟩
                            refine hK.out _ _ ⟨(blk_cell BK409.out 0).trans rfl, (blk_cell BK409.out 1).trans rfl, ((HB.out.cell (World.block_lt_of_cell? w _ hw411_0)).trans hw411_0), ((HB.out.cell (World.block_lt_of_cell? w _ hw413_0)).trans hw413_0), ((HB.out.cell (World.block_lt_of_cell? w _ hw414_0)).trans hw414_0)⟩ (fun hHeld => ?_)
                            clear hK K
                            refine zW (some 31) ?_
                            refine zP HT_ 11 (some 32) rfl rfl ?_
                            refine zP HT_ 12 (some 33) rfl rfl ?_
                            refine zP HT_ 13 (some 34) rfl rfl ?_
                            refine zP HT_ 14 (some 35) rfl rfl ?_
                            refine zP HT_ 15 (some 36) rfl rfl ?_
                            refine zP HT_ 16 (some 37) rfl rfl ?_
                            refine zP HT_ 18 (some 39) rfl rfl ?_
                            refine zP HT_ 21 (some 42) rfl rfl ?_
                            refine zP HT_ 23 (some 44) rfl rfl ?_
                            refine zP HT_ 24 (some 45) rfl rfl ?_
                            refine zT HT_ HW_ hHeld 17 (some 38) rfl rfl ?_
                            refine zP HT_ 19 (some 40) rfl rfl ?_
                            refine zT HT_ HW_ hHeld 20 (some 41) rfl rfl ?_
                            refine zT HT_ HW_ hHeld 22 (some 43) rfl rfl ?_
                            refine zP HT_ 25 (some 46) rfl rfl ?_
                            refine zT HT_ HW_ hHeld 26 (some 47) rfl rfl ?_
                            refine zP HT_ 27 (some 48) rfl rfl ?_
                            refine zP HT_ 28 (some 49) rfl rfl ?_
                            refine zP HT_ 29 (some 50) rfl rfl ?_
                            refine done_ (done_of HT_.out (by kernel_rfl)) ?_
                            try go_wp2
                            go_roundg k2
                            case measure => have := HJ1.out; have := HK2.out; omega
                            case rel => exact ⟨(wrap64 (x3_2 + 1)), (zF), H', ⟨by have := HJ1.out; have := HK2.out; omega⟩, ⟨zB BK409.out⟩, ⟨zH1 HB.out GE409.out⟩⟩
                        · rw [if_neg c19] at H
                          exact absurd H (by simp)
                      · rw [if_neg c18] at H
                        exact absurd H (by simp)
                    · rw [if_neg c16] at H
                      have c16b0 := decide_eq_false c16
                      clear c16
                      have H' := Aside0.mk H
                      clear H
                      obtain ⟨hcz25_0, hcz25_1⟩ := zc2 BK409
                      obtain ⟨hfz25_0, hfz25_1⟩ := zf2 BK409
                      try go_wp2
                      refine zA2 (blk_drew BK409.out) (below_drew1 HB.out) ?_
                      clear BK409 HB
                      intro BK409 HB
                      have p411 : 0 ≤ (x3_2 : Int) := of_decide_eq_true (by first | (with_reducible assumption) | assumption)
                      have q411 : x3_2 < (l0_1.length : Int) := of_decide_eq_true (by first | (with_reducible assumption) | assumption)
                      obtain ⟨ad411, e411, hx411_0⟩ := Kd.at_int HR0_1.out x3_2 p411 q411
                      have hw411_0 := hx411_0
                      cases e411
                      replace hx411_0 := (HB.out.cell (World.block_lt_of_cell? w _ hx411_0)).trans hx411_0
                      replace p411 := eq_true p411
                      replace q411 := eq_true q411
                      refine start_ (n := 30) (S := fun w' => w'.cell? ⟨gb409, 0, none⟩ = some (.int .i64 a0_0) ∧ w'.cell? ⟨gb409, 1, none⟩ = some (.slice (some ad411) l0_1.length c0_1) ∧ w'.cell? (ad411.add (x3_2).toNat) = some (.int .i64 (rd l0_1 x3_2))) (ds := []) #[false, false, false, false, false, false, false, false, false, false, false, false, false, false, false, false, false, false, false, false, false, false, false, false, false, false, false, false, false, false] (by kernel_rfl) rfl rfl ⟨(blk_cell BK409.out 0).trans rfl, (blk_cell BK409.out 1).trans rfl, ((HB.out.cell (World.block_lt_of_cell? w _ hw411_0)).trans hw411_0)⟩ (fun hHeld => ?_); refine with_tabW spec_l07Is.tab6 spec_l07Is.bits6 (fun HT_ HW_ => ?_)
                      generalize wr.drew = w26 at BK409 HB hx411_0 hHeld ⊢
                      refine zP HT_ 0 (some 21) rfl rfl ?_
                      refine zP HT_ 2 (some 23) rfl rfl ?_
                      refine zP HT_ 5 (some 26) rfl rfl ?_
                      refine zT HT_ HW_ hHeld 1 (some 22) rfl rfl ?_
                      refine zP HT_ 3 (some 24) rfl rfl ?_
                      refine zT HT_ HW_ hHeld 4 (some 25) rfl rfl ?_
                      refine zT HT_ HW_ hHeld 6 (some 27) rfl rfl ?_
                      refine zP HT_ 7 (some 28) rfl rfl ?_
                      refine zP HT_ 8 (some 29) rfl rfl ?_
                      refine zP HT_ 9 (some 30) rfl rfl ?_
                      refine one_ (i := 10) (N := some 31) #[true, true, true, true, true, true, true, true, true, true, true, false, false, false, false, false, false, false, false, false, false, false, false, false, false, false, false, false, false, false] rfl rfl (one_of HT_.out (by kernel_rfl)) (by decide) (fun K hK => ?_)
                      refine goes_ Try.func54 (by kernel_rfl) rfl #[.int .i64 (rd l0_1 x3_2), .int .i64 1, .int .i64 (wrap64 ((ji13) - 1))] (by rfl) rfl rfl (zM1 hji13) ?_
                      with_reducible refine (spec_l01In.calls (rd l0_1 x3_2) 1 (wrap64 ((ji13) - 1)) true _ A14.out).mono ?_
                      rintro e w' ⟨rfl, ⟨nd, rfl⟩⟩
                      refine ⟨_, rfl, ?_⟩
                      refine hK.out _ _ ⟨(blk_cell BK409.out 0).trans rfl, (blk_cell BK409.out 1).trans rfl, ((HB.out.cell (World.block_lt_of_cell? w _ hw411_0)).trans hw411_0)⟩ (fun hHeld => ?_)
                      clear hK K
                      refine zW (some 31) ?_
                      refine zP HT_ 11 (some 32) rfl rfl ?_
                      refine zP HT_ 12 (some 33) rfl rfl ?_
                      refine zP HT_ 13 (some 34) rfl rfl ?_
                      refine zP HT_ 14 (some 35) rfl rfl ?_
                      refine zP HT_ 15 (some 36) rfl rfl ?_
                      refine zU HT_ 16 (some 37) rfl rfl ?_
                      refine zU HT_ 17 (some 38) rfl rfl ?_
                      refine zU HT_ 18 (some 39) rfl rfl ?_
                      refine zU HT_ 19 (some 40) rfl rfl ?_
                      refine zU HT_ 20 (some 41) rfl rfl ?_
                      refine zU HT_ 21 (some 42) rfl rfl ?_
                      refine zU HT_ 22 (some 43) rfl rfl ?_
                      refine zU HT_ 23 (some 44) rfl rfl ?_
                      refine zU HT_ 24 (some 45) rfl rfl ?_
                      refine zU HT_ 25 (some 46) rfl rfl ?_
                      refine zU HT_ 26 (some 47) rfl rfl ?_
                      refine zU HT_ 27 (some 48) rfl rfl ?_
                      refine zP HT_ 28 (some 49) rfl rfl ?_
                      refine zP HT_ 29 (some 50) rfl rfl ?_
                      refine done_ (done_of HT_.out (by kernel_rfl)) ?_
                      try go_wp2
                      go_roundg k2
                      case measure => have := HJ1.out; have := HK2.out; omega
                      case rel => exact ⟨(wrap64 (x3_2 + 1)), (zF), H', ⟨by have := HJ1.out; have := HK2.out; omega⟩, ⟨zB BK409.out⟩, ⟨zH1 HB.out GE409.out⟩⟩
                  · replace c15 := Bool.eq_false_iff.mpr c15
                    subst c15
                    have H1 : (some false) = some r := by rw [if_neg (show ¬ (false = true) by decide)] at H; exact H
                    clear H
                    have H := H1
                    clear H1
                    obtain rfl := Option.some.inj H
                    obtain ⟨hcz27_0, hcz27_1⟩ := zc2 BK409
                    obtain ⟨hfz27_0, hfz27_1⟩ := zf2 BK409
                    try go_wp2
                    refine zA2 (blk_drew BK409.out) (below_drew1 HB.out) ?_
                    clear BK409 HB
                    intro BK409 HB
                    have p411 : 0 ≤ (x3_2 : Int) := of_decide_eq_true (by first | (with_reducible assumption) | assumption)
                    have q411 : x3_2 < (l0_1.length : Int) := of_decide_eq_true (by first | (with_reducible assumption) | assumption)
                    obtain ⟨ad411, e411, hx411_0⟩ := Kd.at_int HR0_1.out x3_2 p411 q411
                    have hw411_0 := hx411_0
                    cases e411
                    replace hx411_0 := (HB.out.cell (World.block_lt_of_cell? w _ hx411_0)).trans hx411_0
                    replace p411 := eq_true p411
                    replace q411 := eq_true q411
                    refine start_ (n := 30) (S := fun w' => w'.cell? ⟨gb409, 0, none⟩ = some (.int .i64 a0_0) ∧ w'.cell? ⟨gb409, 1, none⟩ = some (.slice (some ad411) l0_1.length c0_1) ∧ w'.cell? (ad411.add (x3_2).toNat) = some (.int .i64 (rd l0_1 x3_2))) (ds := []) #[false, false, false, false, false, false, false, false, false, false, false, false, false, false, false, false, false, false, false, false, false, false, false, false, false, false, false, false, false, false] (by kernel_rfl) rfl rfl ⟨(blk_cell BK409.out 0).trans rfl, (blk_cell BK409.out 1).trans rfl, ((HB.out.cell (World.block_lt_of_cell? w _ hw411_0)).trans hw411_0)⟩ (fun hHeld => ?_); refine with_tabW spec_l07Is.tab6 spec_l07Is.bits6 (fun HT_ HW_ => ?_)
                    generalize wr.drew = w28 at BK409 HB hx411_0 hHeld ⊢
                    refine zP HT_ 0 (some 21) rfl rfl ?_
                    refine zP HT_ 2 (some 23) rfl rfl ?_
                    refine zP HT_ 5 (some 26) rfl rfl ?_
                    refine zT HT_ HW_ hHeld 1 (some 22) rfl rfl ?_
                    refine zP HT_ 3 (some 24) rfl rfl ?_
                    refine zT HT_ HW_ hHeld 4 (some 25) rfl rfl ?_
                    refine zT HT_ HW_ hHeld 6 (some 27) rfl rfl ?_
                    refine zP HT_ 7 (some 28) rfl rfl ?_
                    refine zP HT_ 8 (some 29) rfl rfl ?_
                    refine zP HT_ 9 (some 30) rfl rfl ?_
                    refine one_ (i := 10) (N := some 31) #[true, true, true, true, true, true, true, true, true, true, true, false, false, false, false, false, false, false, false, false, false, false, false, false, false, false, false, false, false, false] rfl rfl (one_of HT_.out (by kernel_rfl)) (by decide) (fun K hK => ?_)
                    refine goes_ Try.func54 (by kernel_rfl) rfl #[.int .i64 (rd l0_1 x3_2), .int .i64 1, .int .i64 (wrap64 ((ji13) - 1))] (by rfl) rfl rfl (zM1 hji13) ?_
                    with_reducible refine (spec_l01In.calls (rd l0_1 x3_2) 1 (wrap64 ((ji13) - 1)) false _ A14.out).mono ?_
                    rintro e w' ⟨rfl, ⟨nd, rfl⟩⟩
                    refine ⟨_, rfl, ?_⟩
                    refine hK.out _ _ ⟨(blk_cell BK409.out 0).trans rfl, (blk_cell BK409.out 1).trans rfl, ((HB.out.cell (World.block_lt_of_cell? w _ hw411_0)).trans hw411_0)⟩ (fun hHeld => ?_)
                    clear hK K
                    refine zW (some 31) ?_
                    refine zP HT_ 11 (some 32) rfl rfl ?_
                    refine zP HT_ 12 (some 33) rfl rfl ?_
                    refine zU HT_ 13 (some 34) rfl rfl ?_
                    refine zU HT_ 14 (some 35) rfl rfl ?_
                    refine zU HT_ 15 (some 36) rfl rfl ?_
                    refine zU HT_ 16 (some 37) rfl rfl ?_
                    refine zU HT_ 17 (some 38) rfl rfl ?_
                    refine zU HT_ 18 (some 39) rfl rfl ?_
                    refine zU HT_ 19 (some 40) rfl rfl ?_
                    refine zU HT_ 20 (some 41) rfl rfl ?_
                    refine zU HT_ 21 (some 42) rfl rfl ?_
                    refine zU HT_ 22 (some 43) rfl rfl ?_
                    refine zU HT_ 23 (some 44) rfl rfl ?_
                    refine zU HT_ 24 (some 45) rfl rfl ?_
                    refine zU HT_ 25 (some 46) rfl rfl ?_
                    refine zU HT_ 26 (some 47) rfl rfl ?_
                    refine zU HT_ 27 (some 48) rfl rfl ?_
                    refine zU HT_ 28 (some 49) rfl rfl ?_
                    refine zP HT_ 29 (some 50) rfl rfl ?_
                    refine done_ (done_of HT_.out (by kernel_rfl)) ?_
                    try go_wp2
                    go_ret
                    exact ⟨by first | rfl | (simp [errW_none, errW_some] <;> rfl) | (simp only [← hji11, ← hji13]; first | rfl | (simp [errW_none, errW_some] <;> rfl)) | (simp [*, errW_none, errW_some] <;> rfl), zH1 HB.out GE409.out⟩
                · rw [if_neg c12] at H
                  exact absurd H (by simp)
              · rw [if_neg c10] at H
                exact absurd H (by simp)
            · rw [if_neg c9] at H
              have c9b0 := decide_eq_false c9
              clear c9
              obtain rfl := Option.some.inj H
              obtain ⟨hcz29_0, hcz29_1⟩ := zc2 BK409
              obtain ⟨hfz29_0, hfz29_1⟩ := zf2 BK409
              go_wp2
              go_ret
              exact ⟨zE, zH1 HB.out GE409.out⟩

/-! ### spec_l07Sets: function 30 -/
def spec_l07Sets.j0 : Nat → Int → Int → Bool → Option (Int)
  | 0, _, _, _ => none
  | k + 1, x1, x2, x11 => if x11 = true then (some 2) else (if (Go.bits .and .i64 x1 x2) = 0 then ((spec_l07Ones.f k x1).bind fun t419 => ((spec_l07Ones.f k x2).bind fun t420 => ((spec_l01In.f (wrap64 (t419 - t420)) 0 1).bind fun t421 => (if t421 = true then (some 0) else (some 5))))) else (some 5))
def spec_l07Sets.f (k : Nat) (a0_0 : Int) (l0_1 : List Int) (a1 : Int) (a2 : Int) : Option (Int) := (spec_l07Is.f k a0_0 l0_1).bind fun t416 => (if t416 = true then (if 0 ≤ (IntKind.u64.wrap (a0_0)) then ((spec_l01In.f a1 0 (wrap64 ((shl .i64 1 (IntKind.u64.wrap (a0_0))) - 1))).bind fun t417 => (if t417 = true then ((spec_l01In.f a2 0 (wrap64 ((shl .i64 1 (IntKind.u64.wrap (a0_0))) - 1))).bind fun t418 => (spec_l07Sets.j0 k a1 a2 (!t418))) else (spec_l07Sets.j0 k a1 a2 true))) else (none)) else (some 1))
theorem spec_l07Sets.mono_l : ∀ k, (∀ y0 y1 y2, LeO (spec_l07Sets.j0 k y0 y1 y2) (spec_l07Sets.j0 (k + 1) y0 y1 y2))
  | 0 => fun _ _ _ r h => by simp [spec_l07Sets.j0] at h
  | k + 1 => by
    have ih0 := spec_l07Sets.mono_l k
    · intro y0 y1 y2
      unfold spec_l07Sets.j0
      repeat' first
      | (with_reducible exact ih0 _ _ _)
      | (with_reducible exact spec_l07Is.mono _ _ _)
      | (with_reducible exact spec_l07Ones.mono _ _)
      | (with_reducible exact LeO.refl _)
      | (with_reducible exact LeO.none _)
      | (with_reducible refine LeO.ite ?_ ?_)
      | (with_reducible refine LeO.bind ?_ (fun _ => ?_))
      | exact ih0 _ _ _
      | exact spec_l07Is.mono _ _ _
      | exact spec_l07Ones.mono _ _
      | exact LeO.none _
      | refine LeO.ite ?_ ?_
      | refine LeO.bind ?_ (fun _ => ?_)
theorem spec_l07Sets.mono : ∀ a0 a1 a2 a3 k, LeO (spec_l07Sets.f k a0 a1 a2 a3) (spec_l07Sets.f (k + 1) a0 a1 a2 a3) := by
  intro a0 a1 a2 a3 k
  have ih0 := spec_l07Sets.mono_l k
  unfold spec_l07Sets.f
  repeat' first
      | (with_reducible exact ih0 _ _ _)
      | (with_reducible exact spec_l07Is.mono _ _ _)
      | (with_reducible exact spec_l07Ones.mono _ _)
      | (with_reducible exact LeO.refl _)
      | (with_reducible exact LeO.none _)
      | (with_reducible refine LeO.ite ?_ ?_)
      | (with_reducible refine LeO.bind ?_ (fun _ => ?_))
      | exact ih0 _ _ _
      | exact spec_l07Is.mono _ _ _
      | exact spec_l07Ones.mono _ _
      | exact LeO.none _
      | refine LeO.ite ?_ ?_
      | refine LeO.bind ?_ (fun _ => ?_)
set_option maxHeartbeats 8000000 in
set_option maxRecDepth 100000 in
theorem spec_l07Sets.calls (k : Nat) (a0_0 : Int) (A0_1 : Option Addr) (c0_1 : Nat) (l0_1 : List Int) (a1 : Int) (a2 : Int) (r : Int) (w : World) (hr0_1 : Kd.C (Kd.int .i64) w A0_1 l0_1.length l0_1) (hc0_1 : l0_1.length ≤ c0_1) (h : spec_l07Sets.f k a0_0 l0_1 a1 a2 = some r) :
    Calls Try.prog 30 #[.agg #[.int .i64 a0_0, .slice A0_1 l0_1.length c0_1], .int .i64 a1, .int .i64 a2] w fun e w' => e = .returned (.int .i64 r) ∧ Below w.heap.size w w' := by
  have hu26 := Try.underlying26
  have HR0_1 := Aside0.mk hr0_1
  have HC0_1 := Aside0.mk hc0_1
  clear hr0_1 hc0_1
  have HB := Aside0.mk (Below.refl w.heap.size w)
  have H : ((spec_l07Is.f k a0_0 l0_1).bind fun t416 => (if t416 = true then (if 0 ≤ (IntKind.u64.wrap (a0_0)) then ((spec_l01In.f a1 0 (wrap64 ((shl .i64 1 (IntKind.u64.wrap (a0_0))) - 1))).bind fun t417 => (if t417 = true then ((spec_l01In.f a2 0 (wrap64 ((shl .i64 1 (IntKind.u64.wrap (a0_0))) - 1))).bind fun t418 => (spec_l07Sets.j0 k a1 a2 (!t418))) else (spec_l07Sets.j0 k a1 a2 true))) else (none)) else (some 1))) = some r := h
  clear h
  obtain ⟨t416, A4, H⟩ := zb H
  by_cases c5 : t416 = true
  · subst c5
    have H1 : (if 0 ≤ (IntKind.u64.wrap (a0_0)) then ((spec_l01In.f a1 0 (wrap64 ((shl .i64 1 (IntKind.u64.wrap (a0_0))) - 1))).bind fun t417 => (if t417 = true then ((spec_l01In.f a2 0 (wrap64 ((shl .i64 1 (IntKind.u64.wrap (a0_0))) - 1))).bind fun t418 => (spec_l07Sets.j0 k a1 a2 (!t418))) else (spec_l07Sets.j0 k a1 a2 true))) else (none)) = some r := by rw [if_pos rfl] at H; exact H
    clear H
    have H := H1
    clear H1
    have HC6 := Aside0.mk H
    clear H
    go_enter Try.func30, Try.ntmps30
    go_upto_region 3 with (first | ((with_reducible refine gate_dst (N := 3) rfl ?_); refine zX 3 #[.int .i64 a0_0, .slice A0_1 l0_1.length c0_1] 26 ?_; intro gb415 hg w7 hbox hb; refine zA4 (below_step (zH HB.out) hb) (hbox) ((zS hg (below_size (zH HB.out)) : w.heap.size ≤ gb415)) ((zS hg (below_size (zH HB.out)) : w.heap.size ≤ gb415)) ?_; clear HB; intro HB BK415 GW415 GE415; clear hb hbox hg; obtain ⟨hcz8_0, hcz8_1⟩ := zc2 BK415; obtain ⟨hfz8_0, hfz8_1⟩ := zf2 BK415) | ((with_reducible refine gate_callee (f := 53) rfl ?_); refine goesL_ (some 9) rfl rfl Try.func53 (by kernel_rfl) rfl #[.agg #[.int .i64 a0_0, .slice A0_1 l0_1.length c0_1]] rfl zM ?_; (with_reducible refine (spec_l07Is.calls k a0_0 _ _ l0_1 true _ ?side1 ?side2 A4.out).mono ?_); (case side1 => repeat (first | exact (Kd.C_below HR0_1.out HB.out) | (with_reducible refine Kd.C_alloc ?_ _) | (with_reducible refine Kd.C_drewN ?_ _) | (with_reducible refine Kd.C_drew ?_))); (case side2 => exact HC0_1.out); rintro e w9 ⟨rfl, hb⟩; refine ⟨_, rfl, ?_⟩; refine zA2 (blk_below (g := gb415) (o := .cells #[.int .i64 a0_0, .slice A0_1 l0_1.length c0_1] 26 (0, 0)) (zB BK415.out) hb) (below_step (zH1 HB.out GE415.out) hb) ?_; clear BK415 HB; intro BK415 HB; (try clear hb); (try clear hb2); (try clear hk); (try clear hi)))
    (try simp only [Act.put, List.setIfInBounds_toArray, List.set_cons_zero, List.set_cons_succ])
    go_cut [11] (fun v11 wc => ∃ (kq : Nat) (x11_5 : Bool), v11 = .bool x11_5 ∧ Aside0 (spec_l07Sets.j0 kq a1 a2 x11_5 = some r) ∧ Aside0 (kq ≤ k) ∧ Aside0 (wc.heap[gb415]? = some (.cells #[.int .i64 a0_0, (.slice A0_1 l0_1.length c0_1)] 26 (0, 0))) ∧ Aside0 (Below w.heap.size w wc))
    case first =>
      have H := HC6.out
      clear HC6
      obtain ⟨ji10, hji10⟩ := zj (IntKind.u64.wrap (a0_0))
      (first | rw [hji10] at H | simp only [hji10] at H)
      by_cases c11 : 0 ≤ (ji10)
      · rw [if_pos c11] at H
        have c11b0 := eq_true c11
        have c11b1 := decide_eq_true c11
        clear c11
        obtain ⟨ji12, hji12⟩ := zj (shl .i64 1 (ji10))
        (first | rw [hji12] at H | simp only [hji12] at H)
        have hji12_ : (IntKind.i64.wrap (1 * 2 ^ min (ji10).toNat 64)) = ji12 := hji12
        have hji12z : (ji10) ≤ 64 → (IntKind.i64.wrap (1 * 2 ^ (ji10).toNat)) = ji12 := shl_small hji12
        have hji12u : (IntKind.i64.wrap (2 ^ min (ji10).toNat 64)) = ji12 := by have h_ := hji12_; rw [Int.one_mul] at h_; exact h_
        have hji12v : (ji10) ≤ 64 → (IntKind.i64.wrap (2 ^ (ji10).toNat)) = ji12 := fun hle_ => by have h_ := hji12z hle_; rw [Int.one_mul] at h_; exact h_
        have hji12y : (wrap64 (1 * 2 ^ min (ji10).toNat 64)) = ji12 := (i64_w _).symm.trans hji12_
        have hji12x : (ji10) ≤ 64 → (wrap64 (1 * 2 ^ (ji10).toNat)) = ji12 := fun h_ => (i64_w _).symm.trans (hji12z h_)
        obtain ⟨t417, A13, H⟩ := zb H
        by_cases c14 : t417 = true
        · subst c14
          have H1 : ((spec_l01In.f a2 0 (wrap64 ((ji12) - 1))).bind fun t418 => (spec_l07Sets.j0 k a1 a2 (!t418))) = some r := by rw [if_pos rfl] at H; exact H
          clear H
          have H := H1
          clear H1
          have c15b0 := eq_true (of_decide_eq_true (by first | (with_reducible assumption) | assumption) : 0 ≤ (ji10))
          obtain ⟨t418, A16, H⟩ := zb H
          have H' := Aside0.mk H
          clear H
          obtain ⟨hcz17_0, hcz17_1⟩ := zc2 BK415
          obtain ⟨hfz17_0, hfz17_1⟩ := zf2 BK415
          go_wp2_with (first | ((with_reducible refine gate_callee (f := 54) rfl ?_); refine goesL_ (some 18) rfl rfl Try.func54 (by kernel_rfl) rfl #[.int .i64 a1, .int .i64 0, .int .i64 (wrap64 ((ji12) - 1))] rfl (zM1 hji12) ?_; (with_reducible refine (spec_l01In.calls a1 0 (wrap64 ((ji12) - 1)) true _ A13.out).mono ?_); rintro e w' ⟨rfl, ⟨nd, rfl⟩⟩; refine ⟨_, rfl, ?_⟩) | (go_at_call 54; (with_reducible refine (spec_l01In.calls a2 0 (wrap64 ((ji12) - 1)) t418 _ A16.out).mono ?_); rintro e w' ⟨rfl, ⟨nd, rfl⟩⟩))
          go_meet
          case rel => exact ⟨_, (!t418), (zF), H', ⟨by first | omega | exact Nat.le_refl _⟩, ⟨zB BK415.out⟩, ⟨zH1 HB.out GE415.out⟩⟩
        · replace c14 := Bool.eq_false_iff.mpr c14
          subst c14
          have H1 : (spec_l07Sets.j0 k a1 a2 true) = some r := by rw [if_neg (show ¬ (false = true) by decide)] at H; exact H
          clear H
          have H := H1
          clear H1
          have H' := Aside0.mk H
          clear H
          obtain ⟨hcz18_0, hcz18_1⟩ := zc2 BK415
          obtain ⟨hfz18_0, hfz18_1⟩ := zf2 BK415
          go_wp2_with (first | ((with_reducible refine gate_callee (f := 54) rfl ?_); refine goesL_ (some 18) rfl rfl Try.func54 (by kernel_rfl) rfl #[.int .i64 a1, .int .i64 0, .int .i64 (wrap64 ((ji12) - 1))] rfl (zM1 hji12) ?_; (with_reducible refine (spec_l01In.calls a1 0 (wrap64 ((ji12) - 1)) false _ A13.out).mono ?_); rintro e w' ⟨rfl, ⟨nd, rfl⟩⟩; refine ⟨_, rfl, ?_⟩))
          go_meet
          case rel => exact ⟨_, (true), (zF), H', ⟨by first | omega | exact Nat.le_refl _⟩, ⟨zB BK415.out⟩, ⟨zH1 HB.out GE415.out⟩⟩
      · rw [if_neg c11] at H
        exact absurd H (by simp)
    case rest =>
      clear HC6
      try clear c1
      try clear p2
      try clear c3
      try clear c5
      try clear p6
      try clear c11
      try clear c11b0
      try clear c11b1
      try clear c14
      try clear c15
      try clear c15b0
      try clear hcz17_0
      try clear hcz17_1
      try clear hcz18_0
      try clear hcz18_1
      try clear hcz8_0
      try clear hcz8_1
      try clear hfz17_0
      try clear hfz17_1
      try clear hfz18_0
      try clear hfz18_1
      try clear hfz8_0
      try clear hfz8_1
      obtain ⟨kq, x11_5, rfl, HA, HJ5, BK415, HB⟩ := hcut
      cases kq with
      | zero => exact absurd HA.out (by simp [spec_l07Sets.j0])
      | succ kj5 =>
        have H := HA.out
        clear HA
        simp only [spec_l07Sets.j0] at H
        by_cases c19 : x11_5 = true
        · subst c19
          have H1 : (some 2) = some r := by rw [if_pos rfl] at H; exact H
          clear H
          have H := H1
          clear H1
          obtain rfl := Option.some.inj H
          go_wp2
          go_ret
          exact ⟨zE, zH1 HB.out GE415.out⟩
        · replace c19 := Bool.eq_false_iff.mpr c19
          subst c19
          have H1 : (if (Go.bits .and .i64 a1 a2) = 0 then ((spec_l07Ones.f kj5 a1).bind fun t419 => ((spec_l07Ones.f kj5 a2).bind fun t420 => ((spec_l01In.f (wrap64 (t419 - t420)) 0 1).bind fun t421 => (if t421 = true then (some 0) else (some 5))))) else (some 5)) = some r := by rw [if_neg (show ¬ (false = true) by decide)] at H; exact H
          clear H
          have H := H1
          clear H1
          by_cases c20 : (Go.bits .and .i64 a1 a2) = 0
          · rw [if_pos c20] at H
            have c20b0 := zq1 c20
            have c20b1 := zq2 c20
            clear c20
            obtain ⟨t419, A21, H⟩ := zb H
            obtain ⟨t420, A22, H⟩ := zb H
            obtain ⟨t421, A23, H⟩ := zb H
            by_cases c24 : t421 = true
            · subst c24
              have H1 : (some 0) = some r := by rw [if_pos rfl] at H; exact H
              clear H
              have H := H1
              clear H1
              obtain rfl := Option.some.inj H
              go_wp2_with (first | (go_at_call 42; (with_reducible refine (spec_l07Ones.calls kj5 a1 t419 _ A21.out).mono ?_); rintro e w' ⟨rfl, ⟨nd, rfl⟩⟩) | (go_at_call 42; (with_reducible refine (spec_l07Ones.calls kj5 a2 t420 _ A22.out).mono ?_); rintro e w' ⟨rfl, ⟨nd, rfl⟩⟩) | (go_at_call 54; (with_reducible refine (spec_l01In.calls (wrap64 (t419 - t420)) 0 1 true _ A23.out).mono ?_); rintro e w' ⟨rfl, ⟨nd, rfl⟩⟩))
              go_ret
              exact ⟨zE, zH1 HB.out GE415.out⟩
            · replace c24 := Bool.eq_false_iff.mpr c24
              subst c24
              have H1 : (some 5) = some r := by rw [if_neg (show ¬ (false = true) by decide)] at H; exact H
              clear H
              have H := H1
              clear H1
              obtain rfl := Option.some.inj H
              go_wp2_with (first | (go_at_call 42; (with_reducible refine (spec_l07Ones.calls kj5 a1 t419 _ A21.out).mono ?_); rintro e w' ⟨rfl, ⟨nd, rfl⟩⟩) | (go_at_call 42; (with_reducible refine (spec_l07Ones.calls kj5 a2 t420 _ A22.out).mono ?_); rintro e w' ⟨rfl, ⟨nd, rfl⟩⟩) | (go_at_call 54; (with_reducible refine (spec_l01In.calls (wrap64 (t419 - t420)) 0 1 false _ A23.out).mono ?_); rintro e w' ⟨rfl, ⟨nd, rfl⟩⟩))
              go_ret
              exact ⟨zE, zH1 HB.out GE415.out⟩
          · rw [if_neg c20] at H
            have c20b0 := zq3 c20
            have c20b1 := zq4 c20
            obtain rfl := Option.some.inj H
            go_wp2
            go_ret
            exact ⟨zE, zH1 HB.out GE415.out⟩
  · replace c5 := Bool.eq_false_iff.mpr c5
    subst c5
    have H1 : (some 1) = some r := by rw [if_neg (show ¬ (false = true) by decide)] at H; exact H
    clear H
    have H := H1
    clear H1
    obtain rfl := Option.some.inj H
    go_enter Try.func30, Try.ntmps30
    go_wp2_with (first | ((with_reducible refine gate_dst (N := 3) rfl ?_); refine zX 3 #[.int .i64 a0_0, .slice A0_1 l0_1.length c0_1] 26 ?_; intro gb415 hg w25 hbox hb; refine zA4 (below_step (zH HB.out) hb) (hbox) ((zS hg (below_size (zH HB.out)) : w.heap.size ≤ gb415)) ((zS hg (below_size (zH HB.out)) : w.heap.size ≤ gb415)) ?_; clear HB; intro HB BK415 GW415 GE415; clear hb hbox hg; obtain ⟨hcz26_0, hcz26_1⟩ := zc2 BK415; obtain ⟨hfz26_0, hfz26_1⟩ := zf2 BK415) | ((with_reducible refine gate_callee (f := 53) rfl ?_); refine goesL_ (some 9) rfl rfl Try.func53 (by kernel_rfl) rfl #[.agg #[.int .i64 a0_0, .slice A0_1 l0_1.length c0_1]] rfl zM ?_; (with_reducible refine (spec_l07Is.calls k a0_0 _ _ l0_1 false _ ?side1 ?side2 A4.out).mono ?_); (case side1 => repeat (first | exact (Kd.C_below HR0_1.out HB.out) | (with_reducible refine Kd.C_alloc ?_ _) | (with_reducible refine Kd.C_drewN ?_ _) | (with_reducible refine Kd.C_drew ?_))); (case side2 => exact HC0_1.out); rintro e w27 ⟨rfl, hb⟩; refine ⟨_, rfl, ?_⟩; refine zA2 (blk_below (g := gb415) (o := .cells #[.int .i64 a0_0, .slice A0_1 l0_1.length c0_1] 26 (0, 0)) (zB BK415.out) hb) (below_step (zH1 HB.out GE415.out) hb) ?_; clear BK415 HB; intro BK415 HB; (try clear hb); (try clear hb2); (try clear hk); (try clear hi)))
    go_ret
    exact ⟨zE, zH1 HB.out GE415.out⟩

/-! ### spec_l07Running: function 23 -/
def spec_l07Running.j0 : Nat → Int → Bool → Int → List Int → Option (Int)
  | 0, _, _, _, _ => none
  | k + 1, x7, x34, x423000, x423001 => if x34 = true then (some 5) else (if x7 = 0 then (if x423000 > 9 then (some 3) else (some x7)) else (some x7))
def spec_l07Running.f (k : Nat) (a0_0 : Int) (l0_1 : List Int) (a1 : Int) (a2 : Int) : Option (Int) := (spec_l07Sets.f k a0_0 l0_1 a1 a2).bind fun t423 => (if t423 = 0 then ((spec_l07Fills.f k a0_0 l0_1 a1).bind fun t424 => (if t424 = true then (spec_l07Running.j0 k t423 true a0_0 l0_1) else ((spec_l07Fills.f k a0_0 l0_1 a2).bind fun t425 => (if t425 = true then (spec_l07Running.j0 k t423 true a0_0 l0_1) else (if 0 ≤ (IntKind.u64.wrap (a0_0)) then (spec_l07Running.j0 k t423 ((Go.bits .or .i64 a1 a2) == (wrap64 ((shl .i64 1 (IntKind.u64.wrap (a0_0))) - 1))) a0_0 l0_1) else (none)))))) else (spec_l07Running.j0 k t423 false a0_0 l0_1))
theorem spec_l07Running.mono_l : ∀ k, (∀ y0 y1 y2 y3, LeO (spec_l07Running.j0 k y0 y1 y2 y3) (spec_l07Running.j0 (k + 1) y0 y1 y2 y3))
  | 0 => fun _ _ _ _ r h => by simp [spec_l07Running.j0] at h
  | k + 1 => by
    have ih0 := spec_l07Running.mono_l k
    · intro y0 y1 y2 y3
      unfold spec_l07Running.j0
      repeat' first
      | (with_reducible exact ih0 _ _ _ _)
      | (with_reducible exact spec_l07Fills.mono _ _ _ _)
      | (with_reducible exact spec_l07Sets.mono _ _ _ _ _)
      | (with_reducible exact LeO.refl _)
      | (with_reducible exact LeO.none _)
      | (with_reducible refine LeO.ite ?_ ?_)
      | (with_reducible refine LeO.bind ?_ (fun _ => ?_))
      | exact ih0 _ _ _ _
      | exact spec_l07Fills.mono _ _ _ _
      | exact spec_l07Sets.mono _ _ _ _ _
      | exact LeO.none _
      | refine LeO.ite ?_ ?_
      | refine LeO.bind ?_ (fun _ => ?_)
theorem spec_l07Running.mono : ∀ a0 a1 a2 a3 k, LeO (spec_l07Running.f k a0 a1 a2 a3) (spec_l07Running.f (k + 1) a0 a1 a2 a3) := by
  intro a0 a1 a2 a3 k
  have ih0 := spec_l07Running.mono_l k
  unfold spec_l07Running.f
  repeat' first
      | (with_reducible exact ih0 _ _ _ _)
      | (with_reducible exact spec_l07Fills.mono _ _ _ _)
      | (with_reducible exact spec_l07Sets.mono _ _ _ _ _)
      | (with_reducible exact LeO.refl _)
      | (with_reducible exact LeO.none _)
      | (with_reducible refine LeO.ite ?_ ?_)
      | (with_reducible refine LeO.bind ?_ (fun _ => ?_))
      | exact ih0 _ _ _ _
      | exact spec_l07Fills.mono _ _ _ _
      | exact spec_l07Sets.mono _ _ _ _ _
      | exact LeO.none _
      | refine LeO.ite ?_ ?_
      | refine LeO.bind ?_ (fun _ => ?_)
set_option maxHeartbeats 8000000 in
set_option maxRecDepth 100000 in
theorem spec_l07Running.calls (k : Nat) (a0_0 : Int) (A0_1 : Option Addr) (c0_1 : Nat) (l0_1 : List Int) (a1 : Int) (a2 : Int) (r : Int) (w : World) (hr0_1 : Kd.C (Kd.int .i64) w A0_1 l0_1.length l0_1) (hc0_1 : l0_1.length ≤ c0_1) (h : spec_l07Running.f k a0_0 l0_1 a1 a2 = some r) :
    Calls Try.prog 23 #[.agg #[.int .i64 a0_0, .slice A0_1 l0_1.length c0_1], .int .i64 a1, .int .i64 a2] w fun e w' => e = .returned (.int .i64 r) ∧ Below w.heap.size w w' := by
  have hu26 := Try.underlying26
  have HR0_1 := Aside0.mk hr0_1
  have HC0_1 := Aside0.mk hc0_1
  clear hr0_1 hc0_1
  have HB := Aside0.mk (Below.refl w.heap.size w)
  have H : ((spec_l07Sets.f k a0_0 l0_1 a1 a2).bind fun t423 => (if t423 = 0 then ((spec_l07Fills.f k a0_0 l0_1 a1).bind fun t424 => (if t424 = true then (spec_l07Running.j0 k t423 true a0_0 l0_1) else ((spec_l07Fills.f k a0_0 l0_1 a2).bind fun t425 => (if t425 = true then (spec_l07Running.j0 k t423 true a0_0 l0_1) else (if 0 ≤ (IntKind.u64.wrap (a0_0)) then (spec_l07Running.j0 k t423 ((Go.bits .or .i64 a1 a2) == (wrap64 ((shl .i64 1 (IntKind.u64.wrap (a0_0))) - 1))) a0_0 l0_1) else (none)))))) else (spec_l07Running.j0 k t423 false a0_0 l0_1))) = some r := h
  clear h
  obtain ⟨t423, A4, H⟩ := zb H
  have HC5 := Aside0.mk H
  clear H
  go_enter Try.func23, Try.ntmps23
  go_upto_region 2 with (first | ((with_reducible refine gate_dst (N := 3) rfl ?_); refine zX 3 #[.int .i64 a0_0, .slice A0_1 l0_1.length c0_1] 26 ?_; intro gb422 hg w6 hbox hb; refine zA4 (below_step (zH HB.out) hb) (hbox) ((zS hg (below_size (zH HB.out)) : w.heap.size ≤ gb422)) ((zS hg (below_size (zH HB.out)) : w.heap.size ≤ gb422)) ?_; clear HB; intro HB BK422 GW422 GE422; clear hb hbox hg; obtain ⟨hcz7_0, hcz7_1⟩ := zc2 BK422; obtain ⟨hfz7_0, hfz7_1⟩ := zf2 BK422) | ((with_reducible refine gate_callee (f := 30) rfl ?_); refine goesL_ (some 11) rfl rfl Try.func30 (by kernel_rfl) rfl #[.agg #[.int .i64 a0_0, .slice A0_1 l0_1.length c0_1], .int .i64 a1, .int .i64 a2] rfl zM ?_; (with_reducible refine (spec_l07Sets.calls k a0_0 _ _ l0_1 a1 a2 t423 _ ?side1 ?side2 A4.out).mono ?_); (case side1 => repeat (first | exact (Kd.C_below HR0_1.out HB.out) | (with_reducible refine Kd.C_alloc ?_ _) | (with_reducible refine Kd.C_drewN ?_ _) | (with_reducible refine Kd.C_drew ?_))); (case side2 => exact HC0_1.out); rintro e w8 ⟨rfl, hb⟩; refine ⟨_, rfl, ?_⟩; refine zA2 (blk_below (g := gb422) (o := .cells #[.int .i64 a0_0, .slice A0_1 l0_1.length c0_1] 26 (0, 0)) (zB BK422.out) hb) (below_step (zH1 HB.out GE422.out) hb) ?_; clear BK422 HB; intro BK422 HB; (try clear hb); (try clear hb2); (try clear hk); (try clear hi)))
  (try simp only [Act.put, List.setIfInBounds_toArray, List.set_cons_zero, List.set_cons_succ])
  go_cut [34] (fun v34 wc => ∃ (kq : Nat) (x34_4 : Bool), v34 = .bool x34_4 ∧ Aside0 (spec_l07Running.j0 kq t423 x34_4 a0_0 l0_1 = some r) ∧ Aside0 (kq ≤ k) ∧ Aside0 (wc.heap[gb422]? = some (.cells #[.int .i64 a0_0, (.slice A0_1 l0_1.length c0_1)] 26 (0, 0))) ∧ Aside0 (Below w.heap.size w wc))
  case first =>
    have H := HC5.out
    clear HC5
    by_cases c9 : t423 = 0
    · rw [if_pos c9] at H
      have c9b0 := zq1 c9
      have c9b1 := zq2 c9
      clear c9
      (first | rw [c9b0] | (simp only [i64_w, i32_w]; rw [c9b0]) | skip)
      obtain ⟨t424, A10, H⟩ := zb H
      by_cases c11 : t424 = true
      · subst c11
        have H1 : (spec_l07Running.j0 k t423 true a0_0 l0_1) = some r := by rw [if_pos rfl] at H; exact H
        clear H
        have H := H1
        clear H1
        have H' := Aside0.mk H
        clear H
        obtain ⟨hcz12_0, hcz12_1⟩ := zc2 BK422
        obtain ⟨hfz12_0, hfz12_1⟩ := zf2 BK422
        go_wp2_with (first | (go_at_call 37; (with_reducible refine (spec_l07Fills.calls k a0_0 _ _ l0_1 a1 true _ ?side1 ?side2 A10.out).mono ?_); (case side1 => repeat (first | exact (Kd.C_below HR0_1.out HB.out) | (with_reducible refine Kd.C_alloc ?_ _) | (with_reducible refine Kd.C_drewN ?_ _) | (with_reducible refine Kd.C_drew ?_))); (case side2 => exact HC0_1.out); rintro e w13 ⟨rfl, hb⟩; refine zA2 (blk_below (g := gb422) (o := .cells #[.int .i64 a0_0, .slice A0_1 l0_1.length c0_1] 26 (0, 0)) (zB BK422.out) hb) (below_step (zH1 HB.out GE422.out) hb) ?_; clear BK422 HB; intro BK422 HB; (try clear hb); (try clear hb2); (try clear hk); (try clear hi)))
        go_meet
        case rel => exact ⟨_, (true), (zF), H', ⟨by first | omega | exact Nat.le_refl _⟩, ⟨zB BK422.out⟩, ⟨zH1 HB.out GE422.out⟩⟩
      · replace c11 := Bool.eq_false_iff.mpr c11
        subst c11
        have H1 : ((spec_l07Fills.f k a0_0 l0_1 a2).bind fun t425 => (if t425 = true then (spec_l07Running.j0 k t423 true a0_0 l0_1) else (if 0 ≤ (IntKind.u64.wrap (a0_0)) then (spec_l07Running.j0 k t423 ((Go.bits .or .i64 a1 a2) == (wrap64 ((shl .i64 1 (IntKind.u64.wrap (a0_0))) - 1))) a0_0 l0_1) else (none)))) = some r := by rw [if_neg (show ¬ (false = true) by decide)] at H; exact H
        clear H
        have H := H1
        clear H1
        obtain ⟨t425, A14, H⟩ := zb H
        by_cases c15 : t425 = true
        · subst c15
          have H1 : (spec_l07Running.j0 k t423 true a0_0 l0_1) = some r := by rw [if_pos rfl] at H; exact H
          clear H
          have H := H1
          clear H1
          have H' := Aside0.mk H
          clear H
          obtain ⟨hcz16_0, hcz16_1⟩ := zc2 BK422
          obtain ⟨hfz16_0, hfz16_1⟩ := zf2 BK422
          go_wp2_with (first | (go_at_call 37; (with_reducible refine (spec_l07Fills.calls k a0_0 _ _ l0_1 a1 false _ ?side1 ?side2 A10.out).mono ?_); (case side1 => repeat (first | exact (Kd.C_below HR0_1.out HB.out) | (with_reducible refine Kd.C_alloc ?_ _) | (with_reducible refine Kd.C_drewN ?_ _) | (with_reducible refine Kd.C_drew ?_))); (case side2 => exact HC0_1.out); rintro e w17 ⟨rfl, hb⟩; refine zA2 (blk_below (g := gb422) (o := .cells #[.int .i64 a0_0, .slice A0_1 l0_1.length c0_1] 26 (0, 0)) (zB BK422.out) hb) (below_step (zH1 HB.out GE422.out) hb) ?_; clear BK422 HB; intro BK422 HB; (try clear hb); (try clear hb2); (try clear hk); (try clear hi); obtain ⟨hcz18_0, hcz18_1⟩ := zc2 BK422; obtain ⟨hfz18_0, hfz18_1⟩ := zf2 BK422) | (go_at_call 37; (with_reducible refine (spec_l07Fills.calls k a0_0 _ _ l0_1 a2 true _ ?side1 ?side2 A14.out).mono ?_); (case side1 => repeat (first | exact (Kd.C_below HR0_1.out HB.out) | (with_reducible refine Kd.C_alloc ?_ _) | (with_reducible refine Kd.C_drewN ?_ _) | (with_reducible refine Kd.C_drew ?_))); (case side2 => exact HC0_1.out); rintro e w19 ⟨rfl, hb⟩; refine zA2 (blk_below (g := gb422) (o := .cells #[.int .i64 a0_0, .slice A0_1 l0_1.length c0_1] 26 (0, 0)) (zB BK422.out) hb) (below_step (zH1 HB.out GE422.out) hb) ?_; clear BK422 HB; intro BK422 HB; (try clear hb); (try clear hb2); (try clear hk); (try clear hi)))
          go_meet
          case rel => exact ⟨_, (true), (zF), H', ⟨by first | omega | exact Nat.le_refl _⟩, ⟨zB BK422.out⟩, ⟨zH1 HB.out GE422.out⟩⟩
        · replace c15 := Bool.eq_false_iff.mpr c15
          subst c15
          have H1 : (if 0 ≤ (IntKind.u64.wrap (a0_0)) then (spec_l07Running.j0 k t423 ((Go.bits .or .i64 a1 a2) == (wrap64 ((shl .i64 1 (IntKind.u64.wrap (a0_0))) - 1))) a0_0 l0_1) else (none)) = some r := by rw [if_neg (show ¬ (false = true) by decide)] at H; exact H
          clear H
          have H := H1
          clear H1
          obtain ⟨ji20, hji20⟩ := zj (IntKind.u64.wrap (a0_0))
          (first | rw [hji20] at H | simp only [hji20] at H)
          (try rw [hji20] at A10)
          (try rw [hji20] at A14)
          by_cases c21 : 0 ≤ (ji20)
          · rw [if_pos c21] at H
            have c21b0 := eq_true c21
            have c21b1 := decide_eq_true c21
            clear c21
            obtain ⟨ji22, hji22⟩ := zj (shl .i64 1 (ji20))
            (first | rw [hji22] at H | simp only [hji22] at H)
            (try rw [hji22] at A10)
            (try rw [hji22] at A14)
            have hji22_ : (IntKind.i64.wrap (1 * 2 ^ min (ji20).toNat 64)) = ji22 := hji22
            have hji22z : (ji20) ≤ 64 → (IntKind.i64.wrap (1 * 2 ^ (ji20).toNat)) = ji22 := shl_small hji22
            have hji22u : (IntKind.i64.wrap (2 ^ min (ji20).toNat 64)) = ji22 := by have h_ := hji22_; rw [Int.one_mul] at h_; exact h_
            have hji22v : (ji20) ≤ 64 → (IntKind.i64.wrap (2 ^ (ji20).toNat)) = ji22 := fun hle_ => by have h_ := hji22z hle_; rw [Int.one_mul] at h_; exact h_
            have hji22y : (wrap64 (1 * 2 ^ min (ji20).toNat 64)) = ji22 := (i64_w _).symm.trans hji22_
            have hji22x : (ji20) ≤ 64 → (wrap64 (1 * 2 ^ (ji20).toNat)) = ji22 := fun h_ => (i64_w _).symm.trans (hji22z h_)
            have H' := Aside0.mk H
            clear H
            obtain ⟨hcz23_0, hcz23_1⟩ := zc2 BK422
            obtain ⟨hfz23_0, hfz23_1⟩ := zf2 BK422
            go_wp2_with (first | (go_at_call 37; (with_reducible refine (spec_l07Fills.calls k a0_0 _ _ l0_1 a1 false _ ?side1 ?side2 A10.out).mono ?_); (case side1 => repeat (first | exact (Kd.C_below HR0_1.out HB.out) | (with_reducible refine Kd.C_alloc ?_ _) | (with_reducible refine Kd.C_drewN ?_ _) | (with_reducible refine Kd.C_drew ?_))); (case side2 => exact HC0_1.out); rintro e w24 ⟨rfl, hb⟩; refine zA2 (blk_below (g := gb422) (o := .cells #[.int .i64 a0_0, .slice A0_1 l0_1.length c0_1] 26 (0, 0)) (zB BK422.out) hb) (below_step (zH1 HB.out GE422.out) hb) ?_; clear BK422 HB; intro BK422 HB; (try clear hb); (try clear hb2); (try clear hk); (try clear hi); obtain ⟨hcz25_0, hcz25_1⟩ := zc2 BK422; obtain ⟨hfz25_0, hfz25_1⟩ := zf2 BK422) | (go_at_call 37; (with_reducible refine (spec_l07Fills.calls k a0_0 _ _ l0_1 a2 false _ ?side1 ?side2 A14.out).mono ?_); (case side1 => repeat (first | exact (Kd.C_below HR0_1.out HB.out) | (with_reducible refine Kd.C_alloc ?_ _) | (with_reducible refine Kd.C_drewN ?_ _) | (with_reducible refine Kd.C_drew ?_))); (case side2 => exact HC0_1.out); rintro e w26 ⟨rfl, hb⟩; refine zA2 (blk_below (g := gb422) (o := .cells #[.int .i64 a0_0, .slice A0_1 l0_1.length c0_1] 26 (0, 0)) (zB BK422.out) hb) (below_step (zH1 HB.out GE422.out) hb) ?_; clear BK422 HB; intro BK422 HB; (try clear hb); (try clear hb2); (try clear hk); (try clear hi); obtain ⟨hcz27_0, hcz27_1⟩ := zc2 BK422; obtain ⟨hfz27_0, hfz27_1⟩ := zf2 BK422))
            go_meet
            case rel => exact ⟨_, (((Go.bits .or .i64 a1 a2) == (wrap64 ((ji22) - 1)))), (by first | rfl | (simp; done) | (simp only [← hji22] <;> (first | rfl | simp)) | (simp [*]; done)), H', ⟨by first | omega | exact Nat.le_refl _⟩, ⟨zB BK422.out⟩, ⟨zH1 HB.out GE422.out⟩⟩
          · rw [if_neg c21] at H
            exact absurd H (by simp)
    · rw [if_neg c9] at H
      have c9b0 := zq3 c9
      have c9b1 := zq4 c9
      (first | rw [c9b0] | (simp only [i64_w, i32_w]; rw [c9b0]) | skip)
      have H' := Aside0.mk H
      clear H
      go_wp2
      go_meet
      case rel => exact ⟨_, (false), (zF), H', ⟨by first | omega | exact Nat.le_refl _⟩, ⟨zB BK422.out⟩, ⟨zH1 HB.out GE422.out⟩⟩
  case rest =>
    clear HC5
    try clear c1
    try clear c2
    try clear p2
    try clear c3
    try clear p6
    try clear c9
    try clear c9b0
    try clear c9b1
    try clear c11
    try clear c15
    try clear c21
    try clear c21b0
    try clear c21b1
    try clear c23
    try clear hcz12_0
    try clear hcz12_1
    try clear hcz16_0
    try clear hcz16_1
    try clear hcz18_0
    try clear hcz18_1
    try clear hcz23_0
    try clear hcz23_1
    try clear hcz25_0
    try clear hcz25_1
    try clear hcz27_0
    try clear hcz27_1
    try clear hcz7_0
    try clear hcz7_1
    try clear hfz12_0
    try clear hfz12_1
    try clear hfz16_0
    try clear hfz16_1
    try clear hfz18_0
    try clear hfz18_1
    try clear hfz23_0
    try clear hfz23_1
    try clear hfz25_0
    try clear hfz25_1
    try clear hfz27_0
    try clear hfz27_1
    try clear hfz7_0
    try clear hfz7_1
    obtain ⟨kq, x34_4, rfl, HA, HJ4, BK422, HB⟩ := hcut
    cases kq with
    | zero => exact absurd HA.out (by simp [spec_l07Running.j0])
    | succ kj4 =>
      have H := HA.out
      clear HA
      simp only [spec_l07Running.j0] at H
      by_cases c28 : x34_4 = true
      · subst c28
        have H1 : (some 5) = some r := by rw [if_pos rfl] at H; exact H
        clear H
        have H := H1
        clear H1
        obtain rfl := Option.some.inj H
        go_wp2
        go_ret
        exact ⟨zE, zH1 HB.out GE422.out⟩
      · replace c28 := Bool.eq_false_iff.mpr c28
        subst c28
        have H1 : (if t423 = 0 then (if a0_0 > 9 then (some 3) else (some t423)) else (some t423)) = some r := by rw [if_neg (show ¬ (false = true) by decide)] at H; exact H
        clear H
        have H := H1
        clear H1
        by_cases c29 : t423 = 0
        · rw [if_pos c29] at H
          have c29b0 := zq1 c29
          have c29b1 := zq2 c29
          clear c29
          by_cases c30 : a0_0 > 9
          · rw [if_pos c30] at H
            have c30b0 := decide_eq_true c30
            clear c30
            obtain rfl := Option.some.inj H
            obtain ⟨hcz31_0, hcz31_1⟩ := zc2 BK422
            obtain ⟨hfz31_0, hfz31_1⟩ := zf2 BK422
            go_wp2
            go_ret
            exact ⟨zE, zH1 HB.out GE422.out⟩
          · rw [if_neg c30] at H
            have c30b0 := decide_eq_false c30
            clear c30
            obtain rfl := Option.some.inj H
            obtain ⟨hcz32_0, hcz32_1⟩ := zc2 BK422
            obtain ⟨hfz32_0, hfz32_1⟩ := zf2 BK422
            go_wp2
            go_ret
            exact ⟨zE, zH1 HB.out GE422.out⟩
        · rw [if_neg c29] at H
          have c29b0 := zq3 c29
          have c29b1 := zq4 c29
          obtain rfl := Option.some.inj H
          go_wp2
          go_ret
          exact ⟨zE, zH1 HB.out GE422.out⟩

/-! ### spec_l07Place: function 48 -/
def spec_l07Place.l0 : Nat → Int → Int → Int → Int → Int → List Int → Option (Int)
  | 0, _, _, _, _, _, _ => none
  | k + 1, x1, x2, x7, x8, x427000, x427001 => if x8 < x427000 then (if 0 ≤ (IntKind.u64.wrap (x8)) then (spec_l07Place.l0 k x1 x2 (wrap64 ((wrap64 ((wrap64 (x7 * 3)) + (Go.bits .and .i64 (shr .i64 x1 (IntKind.u64.wrap (x8))) 1))) + (wrap64 (2 * (Go.bits .and .i64 (shr .i64 x2 (IntKind.u64.wrap (x8))) 1))))) (wrap64 (x8 + 1)) x427000 x427001) else (none)) else (some x7)
def spec_l07Place.f (k : Nat) (a0_0 : Int) (l0_1 : List Int) (a1 : Int) (a2 : Int) : Option (Int) := spec_l07Place.l0 k a1 a2 0 0 a0_0 l0_1
theorem spec_l07Place.mono_l : ∀ k, (∀ y0 y1 y2 y3 y4 y5, LeO (spec_l07Place.l0 k y0 y1 y2 y3 y4 y5) (spec_l07Place.l0 (k + 1) y0 y1 y2 y3 y4 y5))
  | 0 => fun _ _ _ _ _ _ r h => by simp [spec_l07Place.l0] at h
  | k + 1 => by
    have ih0 := spec_l07Place.mono_l k
    · intro y0 y1 y2 y3 y4 y5
      unfold spec_l07Place.l0
      repeat' first
      | (with_reducible exact ih0 _ _ _ _ _ _)
      | (with_reducible exact LeO.refl _)
      | (with_reducible exact LeO.none _)
      | (with_reducible refine LeO.ite ?_ ?_)
      | (with_reducible refine LeO.bind ?_ (fun _ => ?_))
      | exact ih0 _ _ _ _ _ _
      | exact LeO.none _
      | refine LeO.ite ?_ ?_
      | refine LeO.bind ?_ (fun _ => ?_)
theorem spec_l07Place.mono : ∀ a0 a1 a2 a3 k, LeO (spec_l07Place.f k a0 a1 a2 a3) (spec_l07Place.f (k + 1) a0 a1 a2 a3) := by
  intro a0 a1 a2 a3 k
  have ih0 := spec_l07Place.mono_l k
  unfold spec_l07Place.f
  repeat' first
      | (with_reducible exact ih0 _ _ _ _ _ _)
      | (with_reducible exact LeO.refl _)
      | (with_reducible exact LeO.none _)
      | (with_reducible refine LeO.ite ?_ ?_)
      | (with_reducible refine LeO.bind ?_ (fun _ => ?_))
      | exact ih0 _ _ _ _ _ _
      | exact LeO.none _
      | refine LeO.ite ?_ ?_
      | refine LeO.bind ?_ (fun _ => ?_)
set_option maxHeartbeats 8000000 in
set_option maxRecDepth 100000 in
theorem spec_l07Place.calls (k : Nat) (a0_0 : Int) (A0_1 : Option Addr) (c0_1 : Nat) (l0_1 : List Int) (a1 : Int) (a2 : Int) (r : Int) (w : World) (hr0_1 : Kd.C (Kd.int .i64) w A0_1 l0_1.length l0_1) (hc0_1 : l0_1.length ≤ c0_1) (h : spec_l07Place.f k a0_0 l0_1 a1 a2 = some r) :
    Calls Try.prog 48 #[.agg #[.int .i64 a0_0, .slice A0_1 l0_1.length c0_1], .int .i64 a1, .int .i64 a2] w fun e w' => e = .returned (.int .i64 r) ∧ Below w.heap.size w w' := by
  have hu26 := Try.underlying26
  have HR0_1 := Aside0.mk hr0_1
  have HC0_1 := Aside0.mk hc0_1
  clear hr0_1 hc0_1
  have HB := Aside0.mk (Below.refl w.heap.size w)
  have H : (spec_l07Place.l0 k a1 a2 0 0 a0_0 l0_1) = some r := h
  clear h
  have H' := Aside0.mk H
  clear H
  go_enter Try.func48, Try.ntmps48
  go_wp2_with (first | ((with_reducible refine gate_dst (N := 3) rfl ?_); refine zX 3 #[.int .i64 a0_0, .slice A0_1 l0_1.length c0_1] 26 ?_; intro gb426 hg w4 hbox hb; refine zA4 (below_step (zH HB.out) hb) (hbox) ((zS hg (below_size (zH HB.out)) : w.heap.size ≤ gb426)) ((zS hg (below_size (zH HB.out)) : w.heap.size ≤ gb426)) ?_; clear HB; intro HB BK426 GW426 GE426; clear hb hbox hg))
  go_loopg [7, 8] k (fun kq v7 v8 w' => ∃ (x7_1 : Int) (x8_1 : Int), v7 = .int .i64 x7_1 ∧ v8 = .int .i64 x8_1 ∧ Aside0 (spec_l07Place.l0 kq a1 a2 x7_1 x8_1 a0_0 l0_1 = some r) ∧ Aside0 (kq ≤ k) ∧ Aside0 (w'.heap[gb426]? = some (.cells #[.int .i64 a0_0, (.slice A0_1 l0_1.length c0_1)] 26 (0, 0))) ∧ Aside0 (Below w.heap.size w w'))
  case atStart => exact ⟨(0), (0), (zF), (zF), H', ⟨Nat.le_refl _⟩, ⟨zB BK426.out⟩, ⟨zH1 HB.out GE426.out⟩⟩
  case round =>
    clear H'
    try clear p2
    try clear c4
    obtain ⟨x7_1, x8_1, rfl, rfl, HA, HK1, BK426, HB⟩ := hrel
    cases gk with
    | zero => exact absurd HA.out (by simp [spec_l07Place.l0])
    | succ k1 =>
      have H := HA.out
      clear HA
      simp only [spec_l07Place.l0] at H
      by_cases c5 : x8_1 < a0_0
      · rw [if_pos c5] at H
        have c5b0 := decide_eq_true c5
        clear c5
        obtain ⟨ji6, hji6⟩ := zj (IntKind.u64.wrap (x8_1))
        (first | rw [hji6] at H | simp only [hji6] at H)
        by_cases c7 : 0 ≤ (ji6)
        · rw [if_pos c7] at H
          have c7b0 := eq_true c7
          have c7b1 := decide_eq_true c7
          clear c7
          obtain ⟨ji8, hji8⟩ := zj (shr .i64 a1 (ji6))
          (first | rw [hji8] at H | simp only [hji8] at H)
          have hji8_ : (a1 / 2 ^ min (ji6).toNat 64) = ji8 := hji8
          have hji8z : (ji6) ≤ 64 → (a1 / 2 ^ (ji6).toNat) = ji8 := shr_small hji8
          have c9b0 := eq_true (of_decide_eq_true (by first | (with_reducible assumption) | assumption) : 0 ≤ (ji6))
          obtain ⟨ji10, hji10⟩ := zj (shr .i64 a2 (ji6))
          (first | rw [hji10] at H | simp only [hji10] at H)
          have hji10_ : (a2 / 2 ^ min (ji6).toNat 64) = ji10 := hji10
          have hji10z : (ji6) ≤ 64 → (a2 / 2 ^ (ji6).toNat) = ji10 := shr_small hji10
          have H' := Aside0.mk H
          clear H
          obtain ⟨hcz11_0, hcz11_1⟩ := zc2 BK426
          obtain ⟨hfz11_0, hfz11_1⟩ := zf2 BK426
          go_wp2
          go_roundg k1
          case measure => have := HK1.out; omega
          case rel => exact ⟨(wrap64 ((wrap64 ((wrap64 (x7_1 * 3)) + (Go.bits .and .i64 (ji8) 1))) + (wrap64 (2 * (Go.bits .and .i64 (ji10) 1))))), (wrap64 (x8_1 + 1)), (by first | rfl | (simp; done) | (simp only [← hji8, ← hji10] <;> (first | rfl | simp)) | (simp [*]; done)), (zF), H', ⟨by have := HK1.out; omega⟩, ⟨zB BK426.out⟩, ⟨zH1 HB.out GE426.out⟩⟩
        · rw [if_neg c7] at H
          exact absurd H (by simp)
      · rw [if_neg c5] at H
        have c5b0 := decide_eq_false c5
        clear c5
        obtain rfl := Option.some.inj H
        obtain ⟨hcz12_0, hcz12_1⟩ := zc2 BK426
        obtain ⟨hfz12_0, hfz12_1⟩ := zf2 BK426
        go_wp2
        go_ret
        exact ⟨zE, zH1 HB.out GE426.out⟩

/-! ### spec_l07Table: function 25 -/
def spec_l07Table.l0 : Nat → Int → Int → Int → List Int → Option (List Int)
  | 0, _, _, _, _ => none
  | k + 1, x3, x4, x436000, x436001 => if x4 < x436000 then (spec_l07Table.l0 k (wrap64 (x3 * 3)) (wrap64 (x4 + 1)) x436000 x436001) else (if 0 ≤ x3 then (if (x3 : Int).toNat ≤ 281474976710656 then (some (List.replicate (x3 : Int).toNat 0)) else (none)) else (none))
def spec_l07Table.f (k : Nat) (a0_0 : Int) (l0_1 : List Int) : Option (List Int) := spec_l07Table.l0 k 1 0 a0_0 l0_1
theorem spec_l07Table.mono_l : ∀ k, (∀ y0 y1 y2 y3, LeO (spec_l07Table.l0 k y0 y1 y2 y3) (spec_l07Table.l0 (k + 1) y0 y1 y2 y3))
  | 0 => fun _ _ _ _ r h => by simp [spec_l07Table.l0] at h
  | k + 1 => by
    have ih0 := spec_l07Table.mono_l k
    · intro y0 y1 y2 y3
      unfold spec_l07Table.l0
      repeat' first
      | (with_reducible exact ih0 _ _ _ _)
      | (with_reducible exact LeO.refl _)
      | (with_reducible exact LeO.none _)
      | (with_reducible refine LeO.ite ?_ ?_)
      | (with_reducible refine LeO.bind ?_ (fun _ => ?_))
      | exact ih0 _ _ _ _
      | exact LeO.none _
      | refine LeO.ite ?_ ?_
      | refine LeO.bind ?_ (fun _ => ?_)
theorem spec_l07Table.mono : ∀ a0 a1 k, LeO (spec_l07Table.f k a0 a1) (spec_l07Table.f (k + 1) a0 a1) := by
  intro a0 a1 k
  have ih0 := spec_l07Table.mono_l k
  unfold spec_l07Table.f
  repeat' first
      | (with_reducible exact ih0 _ _ _ _)
      | (with_reducible exact LeO.refl _)
      | (with_reducible exact LeO.none _)
      | (with_reducible refine LeO.ite ?_ ?_)
      | (with_reducible refine LeO.bind ?_ (fun _ => ?_))
      | exact ih0 _ _ _ _
      | exact LeO.none _
      | refine LeO.ite ?_ ?_
      | refine LeO.bind ?_ (fun _ => ?_)
set_option maxHeartbeats 8000000 in
set_option maxRecDepth 100000 in
theorem spec_l07Table.calls (k : Nat) (a0_0 : Int) (A0_1 : Option Addr) (c0_1 : Nat) (l0_1 : List Int) (r : List Int) (w : World) (hr0_1 : Kd.C (Kd.int .i64) w A0_1 l0_1.length l0_1) (hc0_1 : l0_1.length ≤ c0_1) (h : spec_l07Table.f k a0_0 l0_1 = some r) :
    Calls Try.prog 25 #[.agg #[.int .i64 a0_0, .slice A0_1 l0_1.length c0_1]] w fun e w' => ∃ v0_ : Value, e = .returned (v0_) ∧ Kd.R (Kd.int .i8) 72 w' w.heap.size (fun _ => True) v0_ r ∧ Below w.heap.size w w' := by
  have hu26 := Try.underlying26
  have HR0_1 := Aside0.mk hr0_1
  have HC0_1 := Aside0.mk hc0_1
  clear hr0_1 hc0_1
  have HB := Aside0.mk (Below.refl w.heap.size w)
  have H : (spec_l07Table.l0 k 1 0 a0_0 l0_1) = some r := h
  clear h
  have H' := Aside0.mk H
  clear H
  go_enter Try.func25, Try.ntmps25
  go_wp2_with (first | ((with_reducible refine gate_dst (N := 1) rfl ?_); refine zX 1 #[.int .i64 a0_0, .slice A0_1 l0_1.length c0_1] 26 ?_; intro gb435 hg w2 hbox hb; refine zA4 (below_step (zH HB.out) hb) (hbox) ((zS hg (below_size (zH HB.out)) : w.heap.size ≤ gb435)) ((zS hg (below_size (zH HB.out)) : w.heap.size ≤ gb435)) ?_; clear HB; intro HB BK435 GW435 GE435; clear hb hbox hg))
  go_loopg [3, 4] k (fun kq v3 v4 w' => ∃ (x3_1 : Int) (x4_1 : Int), v3 = .int .i64 x3_1 ∧ v4 = .int .i64 x4_1 ∧ Aside0 (spec_l07Table.l0 kq x3_1 x4_1 a0_0 l0_1 = some r) ∧ Aside0 (kq ≤ k) ∧ Aside0 (w'.heap[gb435]? = some (.cells #[.int .i64 a0_0, (.slice A0_1 l0_1.length c0_1)] 26 (0, 0))) ∧ Aside0 (Below w.heap.size w w'))
  case atStart => exact ⟨(1), (0), (zF), (zF), H', ⟨Nat.le_refl _⟩, ⟨zB BK435.out⟩, ⟨zH1 HB.out GE435.out⟩⟩
  case round =>
    clear H'
    try clear c2
    try clear p2
    obtain ⟨x3_1, x4_1, rfl, rfl, HA, HK1, BK435, HB⟩ := hrel
    cases gk with
    | zero => exact absurd HA.out (by simp [spec_l07Table.l0])
    | succ k1 =>
      have H := HA.out
      clear HA
      simp only [spec_l07Table.l0] at H
      by_cases c3 : x4_1 < a0_0
      · rw [if_pos c3] at H
        have c3b0 := decide_eq_true c3
        clear c3
        have H' := Aside0.mk H
        clear H
        obtain ⟨hcz4_0, hcz4_1⟩ := zc2 BK435
        obtain ⟨hfz4_0, hfz4_1⟩ := zf2 BK435
        go_wp2
        go_roundg k1
        case measure => have := HK1.out; omega
        case rel => exact ⟨(wrap64 (x3_1 * 3)), (wrap64 (x4_1 + 1)), (zF), (zF), H', ⟨by have := HK1.out; omega⟩, ⟨zB BK435.out⟩, ⟨zH1 HB.out GE435.out⟩⟩
      · rw [if_neg c3] at H
        have c3b0 := decide_eq_false c3
        clear c3
        by_cases c5 : 0 ≤ x3_1
        · rw [if_pos c5] at H
          have c5b0 := eq_true c5
          have c5b1 := decide_eq_true c5
          clear c5
          by_cases c6 : (x3_1 : Int).toNat ≤ 281474976710656
          · rw [if_pos c6] at H
            have c6b0 := eq_true c6
            have c6b1 := decide_eq_true c6
            clear c6
            obtain ⟨y436, hy436⟩ : ∃ y_ : List Int, y_ = (List.replicate (x3_1 : Int).toNat 0) := ⟨_, rfl⟩
            replace H : (some y436) = some r := by first | (rw [hy436]; with_reducible exact H) | (have H2_ := (Option.bind_some _ _).symm.trans H; rw [hy436]; with_reducible exact H2_) | (have H2_ := (Option.bind_some _ _).symm.trans H; with_reducible exact H2_) | with_reducible exact H | (rw [hy436]; exact H) | exact H
            have Ny436 := Aside0.mk hy436
            clear hy436
            obtain rfl := Option.some.inj H
            obtain ⟨hcz7_0, hcz7_1⟩ := zc2 BK435
            obtain ⟨hfz7_0, hfz7_1⟩ := zf2 BK435
            go_wp2_with (first | ((with_reducible refine gate_dst (N := 14) rfl ?_); refine Kd.R_make (Kd.int .i8) _ 72 rfl (N := 14) rfl 49 _ _ rfl x3_1 rfl rfl Try.underlying49 (.int .i8 0) 1 info72 rfl (by decide) (by omega) 0 (ok := fun _ => True) (okp := fun _ => True) rfl (fun _ hk => hk) trivial (of_decide_eq_true (by first | (with_reducible assumption) | assumption)) (Nat.le_trans (Nat.mul_le_mul_right _ (of_decide_eq_true (by first | (with_reducible assumption) | assumption) : x3_1.toNat ≤ 281474976710656)) (by omega)) (Below.refl _ _) (Nat.le_refl _) ?_; intro v437 w8 ho9 hb hg_ hnew_; clear hg_ hnew_; (first | rw [← Ny436.out] at ho9 | (simp only [Int.reduceToNat] at ho9; rw [← Ny436.out] at ho9)); refine zA3 (Kd.R_lower ho9 (below_size (zH1 HB.out GE435.out))) (blk_below (g := gb435) (o := .cells #[.int .i64 a0_0, .slice A0_1 l0_1.length c0_1] 26 (0, 0)) (zB BK435.out) hb) (below_step (zH1 HB.out GE435.out) hb) ?_; clear BK435 HB; intro HO438 BK435 HB; clear hb ho9))
            go_ret
            exact ⟨_, zE, by (with_reducible repeat (first | apply Kd.R_alloc | apply Kd.R_drewN | apply Kd.R_drew)); exact HO438.out, zH1 HB.out GE435.out⟩
          · rw [if_neg c6] at H
            exact absurd H (by simp)
        · rw [if_neg c5] at H
          exact absurd H (by simp)

-- NOT PRINTED: function 61 (slices_IndexFunc_int64_int64)

-- NOT PRINTED: function 50 (slices_DeleteFunc_int64_int64)

/-! ### impl_IsState: function 10 -/
def impl_IsState.f (k : Nat) (a0_0 : Int) (l0_1 : List Int) (a1 : Int) (a2 : Int) : Option (Bool × Int) := (impl_setsCode.f k a0_0 l0_1 a1 a2).bind fun t467 => (if t467 = 0 then ((impl_isState.f a1 a2).bind fun t468 => (some (t468, 0))) else (some (false, t467)))
theorem impl_IsState.mono : ∀ a0 a1 a2 a3 k, LeO (impl_IsState.f k a0 a1 a2 a3) (impl_IsState.f (k + 1) a0 a1 a2 a3) := by
  intro a0 a1 a2 a3 k
  unfold impl_IsState.f
  repeat' first
      | (with_reducible exact impl_setsCode.mono _ _ _ _ _)
      | (with_reducible exact LeO.refl _)
      | (with_reducible exact LeO.none _)
      | (with_reducible refine LeO.ite ?_ ?_)
      | (with_reducible refine LeO.bind ?_ (fun _ => ?_))
      | exact impl_setsCode.mono _ _ _ _ _
      | exact LeO.none _
      | refine LeO.ite ?_ ?_
      | refine LeO.bind ?_ (fun _ => ?_)
set_option maxHeartbeats 8000000 in
set_option maxRecDepth 100000 in
theorem impl_IsState.calls (k : Nat) (a0_0 : Int) (A0_1 : Option Addr) (c0_1 : Nat) (l0_1 : List Int) (a1 : Int) (a2 : Int) (r1 : Bool) (r2 : Int) (w : World) (hr0_1 : Kd.C (Kd.int .i64) w A0_1 l0_1.length l0_1) (hc0_1 : l0_1.length ≤ c0_1) (h : impl_IsState.f k a0_0 l0_1 a1 a2 = some (r1, r2)) :
    Calls Try.prog 10 #[.agg #[.int .i64 a0_0, .slice A0_1 l0_1.length c0_1], .int .i64 a1, .int .i64 a2] w fun e w' => e = .returned (.tuple #[.bool r1, .int .i64 r2]) ∧ Below w.heap.size w w' := by
  have hu26 := Try.underlying26
  have HR0_1 := Aside0.mk hr0_1
  have HC0_1 := Aside0.mk hc0_1
  clear hr0_1 hc0_1
  have HB := Aside0.mk (Below.refl w.heap.size w)
  have H : ((impl_setsCode.f k a0_0 l0_1 a1 a2).bind fun t467 => (if t467 = 0 then ((impl_isState.f a1 a2).bind fun t468 => (some (t468, 0))) else (some (false, t467)))) = some (r1, r2) := h
  clear h
  obtain ⟨t467, A4, H⟩ := zb H
  by_cases c5 : t467 = 0
  · rw [if_pos c5] at H
    have c5b0 := zq1 c5
    have c5b1 := zq2 c5
    clear c5
    obtain ⟨t468, A6, H⟩ := zb H
    simp only [Option.some.injEq, Prod.mk.injEq] at H
    obtain ⟨rfl, rfl⟩ := H
    go_enter Try.func10, Try.ntmps10
    go_wp2_with (first | ((with_reducible refine gate_dst (N := 3) rfl ?_); refine zX 3 #[.int .i64 a0_0, .slice A0_1 l0_1.length c0_1] 26 ?_; intro gb466 hg w7 hbox hb; refine zA4 (below_step (zH HB.out) hb) (hbox) ((zS hg (below_size (zH HB.out)) : w.heap.size ≤ gb466)) ((zS hg (below_size (zH HB.out)) : w.heap.size ≤ gb466)) ?_; clear HB; intro HB BK466 GW466 GE466; clear hb hbox hg; obtain ⟨hcz8_0, hcz8_1⟩ := zc2 BK466; obtain ⟨hfz8_0, hfz8_1⟩ := zf2 BK466) | ((with_reducible refine gate_callee (f := 28) rfl ?_); refine goesL_ (some 12) rfl rfl Try.func28 (by kernel_rfl) rfl #[.agg #[.int .i64 a0_0, .slice A0_1 l0_1.length c0_1], .int .i64 a1, .int .i64 a2] rfl zM ?_; (with_reducible refine (impl_setsCode.calls k a0_0 _ _ l0_1 a1 a2 t467 _ ?side1 ?side2 A4.out).mono ?_); (case side1 => repeat (first | exact (Kd.C_below HR0_1.out HB.out) | (with_reducible refine Kd.C_alloc ?_ _) | (with_reducible refine Kd.C_drewN ?_ _) | (with_reducible refine Kd.C_drew ?_))); (case side2 => exact HC0_1.out); rintro e w9 ⟨rfl, hb⟩; refine ⟨_, rfl, ?_⟩; refine zA2 (blk_below (g := gb466) (o := .cells #[.int .i64 a0_0, .slice A0_1 l0_1.length c0_1] 26 (0, 0)) (zB BK466.out) hb) (below_step (zH1 HB.out GE466.out) hb) ?_; clear BK466 HB; intro BK466 HB; (try clear hb); (try clear hb2); (try clear hk); (try clear hi)) | ((with_reducible refine gate_callee (f := 29) rfl ?_); refine goesL_ (some 18) rfl rfl Try.func29 (by kernel_rfl) rfl #[.int .i64 a1, .int .i64 a2] rfl zM ?_; (with_reducible refine (impl_isState.calls a1 a2 t468 _ A6.out).mono ?_); rintro e w' ⟨rfl, ⟨nd, rfl⟩⟩; refine ⟨_, rfl, ?_⟩))
    go_ret2
    exact ⟨zE, zH1 HB.out GE466.out⟩
  · rw [if_neg c5] at H
    have c5b0 := zq3 c5
    have c5b1 := zq4 c5
    simp only [Option.some.injEq, Prod.mk.injEq] at H
    obtain ⟨rfl, rfl⟩ := H
    go_enter Try.func10, Try.ntmps10
    go_wp2_with (first | ((with_reducible refine gate_dst (N := 3) rfl ?_); refine zX 3 #[.int .i64 a0_0, .slice A0_1 l0_1.length c0_1] 26 ?_; intro gb466 hg w10 hbox hb; refine zA4 (below_step (zH HB.out) hb) (hbox) ((zS hg (below_size (zH HB.out)) : w.heap.size ≤ gb466)) ((zS hg (below_size (zH HB.out)) : w.heap.size ≤ gb466)) ?_; clear HB; intro HB BK466 GW466 GE466; clear hb hbox hg; obtain ⟨hcz11_0, hcz11_1⟩ := zc2 BK466; obtain ⟨hfz11_0, hfz11_1⟩ := zf2 BK466) | ((with_reducible refine gate_callee (f := 28) rfl ?_); refine goesL_ (some 12) rfl rfl Try.func28 (by kernel_rfl) rfl #[.agg #[.int .i64 a0_0, .slice A0_1 l0_1.length c0_1], .int .i64 a1, .int .i64 a2] rfl zM ?_; (with_reducible refine (impl_setsCode.calls k a0_0 _ _ l0_1 a1 a2 t467 _ ?side1 ?side2 A4.out).mono ?_); (case side1 => repeat (first | exact (Kd.C_below HR0_1.out HB.out) | (with_reducible refine Kd.C_alloc ?_ _) | (with_reducible refine Kd.C_drewN ?_ _) | (with_reducible refine Kd.C_drew ?_))); (case side2 => exact HC0_1.out); rintro e w12 ⟨rfl, hb⟩; refine ⟨_, rfl, ?_⟩; refine zA2 (blk_below (g := gb466) (o := .cells #[.int .i64 a0_0, .slice A0_1 l0_1.length c0_1] 26 (0, 0)) (zB BK466.out) hb) (below_step (zH1 HB.out GE466.out) hb) ?_; clear BK466 HB; intro BK466 HB; (try clear hb); (try clear hb2); (try clear hk); (try clear hi)))
    go_ret2
    exact ⟨zE, zH1 HB.out GE466.out⟩

/-! ### spec_IsState: function 11 -/
def spec_IsState.f (k : Nat) (a0_0 : Int) (l0_1 : List Int) (a1 : Int) (a2 : Int) : Option (Bool × Int) := (spec_l07Sets.f k a0_0 l0_1 a1 a2).bind fun t470 => (if t470 = 5 then (some (false, 0)) else (some ((t470 == 0), t470)))
theorem spec_IsState.mono : ∀ a0 a1 a2 a3 k, LeO (spec_IsState.f k a0 a1 a2 a3) (spec_IsState.f (k + 1) a0 a1 a2 a3) := by
  intro a0 a1 a2 a3 k
  unfold spec_IsState.f
  repeat' first
      | (with_reducible exact spec_l07Sets.mono _ _ _ _ _)
      | (with_reducible exact LeO.refl _)
      | (with_reducible exact LeO.none _)
      | (with_reducible refine LeO.ite ?_ ?_)
      | (with_reducible refine LeO.bind ?_ (fun _ => ?_))
      | exact spec_l07Sets.mono _ _ _ _ _
      | exact LeO.none _
      | refine LeO.ite ?_ ?_
      | refine LeO.bind ?_ (fun _ => ?_)
set_option maxHeartbeats 8000000 in
set_option maxRecDepth 100000 in
theorem spec_IsState.calls (k : Nat) (a0_0 : Int) (A0_1 : Option Addr) (c0_1 : Nat) (l0_1 : List Int) (a1 : Int) (a2 : Int) (r1 : Bool) (r2 : Int) (w : World) (hr0_1 : Kd.C (Kd.int .i64) w A0_1 l0_1.length l0_1) (hc0_1 : l0_1.length ≤ c0_1) (h : spec_IsState.f k a0_0 l0_1 a1 a2 = some (r1, r2)) :
    Calls Try.prog 11 #[.agg #[.int .i64 a0_0, .slice A0_1 l0_1.length c0_1], .int .i64 a1, .int .i64 a2] w fun e w' => e = .returned (.tuple #[.bool r1, .int .i64 r2]) ∧ Below w.heap.size w w' := by
  have hu26 := Try.underlying26
  have HR0_1 := Aside0.mk hr0_1
  have HC0_1 := Aside0.mk hc0_1
  clear hr0_1 hc0_1
  have HB := Aside0.mk (Below.refl w.heap.size w)
  have H : ((spec_l07Sets.f k a0_0 l0_1 a1 a2).bind fun t470 => (if t470 = 5 then (some (false, 0)) else (some ((t470 == 0), t470)))) = some (r1, r2) := h
  clear h
  obtain ⟨t470, A4, H⟩ := zb H
  by_cases c5 : t470 = 5
  · rw [if_pos c5] at H
    have c5b0 := zq1 c5
    have c5b1 := zq2 c5
    clear c5
    simp only [Option.some.injEq, Prod.mk.injEq] at H
    obtain ⟨rfl, rfl⟩ := H
    go_enter Try.func11, Try.ntmps11
    go_wp2_with (first | ((with_reducible refine gate_dst (N := 3) rfl ?_); refine zX 3 #[.int .i64 a0_0, .slice A0_1 l0_1.length c0_1] 26 ?_; intro gb469 hg w6 hbox hb; refine zA4 (below_step (zH HB.out) hb) (hbox) ((zS hg (below_size (zH HB.out)) : w.heap.size ≤ gb469)) ((zS hg (below_size (zH HB.out)) : w.heap.size ≤ gb469)) ?_; clear HB; intro HB BK469 GW469 GE469; clear hb hbox hg; obtain ⟨hcz7_0, hcz7_1⟩ := zc2 BK469; obtain ⟨hfz7_0, hfz7_1⟩ := zf2 BK469) | ((with_reducible refine gate_callee (f := 30) rfl ?_); refine goesL_ (some 12) rfl rfl Try.func30 (by kernel_rfl) rfl #[.agg #[.int .i64 a0_0, .slice A0_1 l0_1.length c0_1], .int .i64 a1, .int .i64 a2] rfl zM ?_; (with_reducible refine (spec_l07Sets.calls k a0_0 _ _ l0_1 a1 a2 t470 _ ?side1 ?side2 A4.out).mono ?_); (case side1 => repeat (first | exact (Kd.C_below HR0_1.out HB.out) | (with_reducible refine Kd.C_alloc ?_ _) | (with_reducible refine Kd.C_drewN ?_ _) | (with_reducible refine Kd.C_drew ?_))); (case side2 => exact HC0_1.out); rintro e w8 ⟨rfl, hb⟩; refine ⟨_, rfl, ?_⟩; refine zA2 (blk_below (g := gb469) (o := .cells #[.int .i64 a0_0, .slice A0_1 l0_1.length c0_1] 26 (0, 0)) (zB BK469.out) hb) (below_step (zH1 HB.out GE469.out) hb) ?_; clear BK469 HB; intro BK469 HB; (try clear hb); (try clear hb2); (try clear hk); (try clear hi)))
    go_ret2
    exact ⟨zE, zH1 HB.out GE469.out⟩
  · rw [if_neg c5] at H
    have c5b0 := zq3 c5
    have c5b1 := zq4 c5
    simp only [Option.some.injEq, Prod.mk.injEq] at H
    obtain ⟨rfl, rfl⟩ := H
    go_enter Try.func11, Try.ntmps11
    go_wp2_with (first | ((with_reducible refine gate_dst (N := 3) rfl ?_); refine zX 3 #[.int .i64 a0_0, .slice A0_1 l0_1.length c0_1] 26 ?_; intro gb469 hg w9 hbox hb; refine zA4 (below_step (zH HB.out) hb) (hbox) ((zS hg (below_size (zH HB.out)) : w.heap.size ≤ gb469)) ((zS hg (below_size (zH HB.out)) : w.heap.size ≤ gb469)) ?_; clear HB; intro HB BK469 GW469 GE469; clear hb hbox hg; obtain ⟨hcz10_0, hcz10_1⟩ := zc2 BK469; obtain ⟨hfz10_0, hfz10_1⟩ := zf2 BK469) | ((with_reducible refine gate_callee (f := 30) rfl ?_); refine goesL_ (some 12) rfl rfl Try.func30 (by kernel_rfl) rfl #[.agg #[.int .i64 a0_0, .slice A0_1 l0_1.length c0_1], .int .i64 a1, .int .i64 a2] rfl zM ?_; (with_reducible refine (spec_l07Sets.calls k a0_0 _ _ l0_1 a1 a2 t470 _ ?side1 ?side2 A4.out).mono ?_); (case side1 => repeat (first | exact (Kd.C_below HR0_1.out HB.out) | (with_reducible refine Kd.C_alloc ?_ _) | (with_reducible refine Kd.C_drewN ?_ _) | (with_reducible refine Kd.C_drew ?_))); (case side2 => exact HC0_1.out); rintro e w11 ⟨rfl, hb⟩; refine ⟨_, rfl, ?_⟩; refine zA2 (blk_below (g := gb469) (o := .cells #[.int .i64 a0_0, .slice A0_1 l0_1.length c0_1] 26 (0, 0)) (zB BK469.out) hb) (below_step (zH1 HB.out GE469.out) hb) ?_; clear BK469 HB; intro BK469 HB; (try clear hb); (try clear hb2); (try clear hk); (try clear hi)))
    go_ret2
    exact ⟨zE, zH1 HB.out GE469.out⟩

/-! ### laws_likeInts: function 12 -/
def laws_likeInts.l0 : Nat → List Int → List Int → Int → Option (Bool)
  | 0, _, _, _ => none
  | k + 1, x0, x1, x5 => if x5 < (x0.length : Int) then (if 0 ≤ x5 then (if x5 < (x1.length : Int) then (if (rd x0 x5) = (rd x1 x5) then (laws_likeInts.l0 k x0 x1 (wrap64 (x5 + 1))) else (some false)) else (none)) else (none)) else (some true)
def laws_likeInts.f (k : Nat) (l0 : List Int) (l1 : List Int) : Option (Bool) := if (l0.length : Int) = (l1.length : Int) then (laws_likeInts.l0 k l0 l1 0) else (some false)
theorem laws_likeInts.mono_l : ∀ k, (∀ y0 y1 y2, LeO (laws_likeInts.l0 k y0 y1 y2) (laws_likeInts.l0 (k + 1) y0 y1 y2))
  | 0 => fun _ _ _ r h => by simp [laws_likeInts.l0] at h
  | k + 1 => by
    have ih0 := laws_likeInts.mono_l k
    · intro y0 y1 y2
      unfold laws_likeInts.l0
      repeat' first
      | (with_reducible exact ih0 _ _ _)
      | (with_reducible exact LeO.refl _)
      | (with_reducible exact LeO.none _)
      | (with_reducible refine LeO.ite ?_ ?_)
      | (with_reducible refine LeO.bind ?_ (fun _ => ?_))
      | exact ih0 _ _ _
      | exact LeO.none _
      | refine LeO.ite ?_ ?_
      | refine LeO.bind ?_ (fun _ => ?_)
theorem laws_likeInts.mono : ∀ a0 a1 k, LeO (laws_likeInts.f k a0 a1) (laws_likeInts.f (k + 1) a0 a1) := by
  intro a0 a1 k
  have ih0 := laws_likeInts.mono_l k
  unfold laws_likeInts.f
  repeat' first
      | (with_reducible exact ih0 _ _ _)
      | (with_reducible exact LeO.refl _)
      | (with_reducible exact LeO.none _)
      | (with_reducible refine LeO.ite ?_ ?_)
      | (with_reducible refine LeO.bind ?_ (fun _ => ?_))
      | exact ih0 _ _ _
      | exact LeO.none _
      | refine LeO.ite ?_ ?_
      | refine LeO.bind ?_ (fun _ => ?_)
set_option maxHeartbeats 8000000 in
set_option maxRecDepth 100000 in
theorem laws_likeInts.calls (k : Nat) (A0 : Option Addr) (c0 : Nat) (l0 : List Int) (A1 : Option Addr) (c1 : Nat) (l1 : List Int) (r : Bool) (w : World) (hr0 : Kd.C (Kd.int .i64) w A0 l0.length l0) (hc0 : l0.length ≤ c0) (hr1 : Kd.C (Kd.int .i64) w A1 l1.length l1) (hc1 : l1.length ≤ c1) (h : laws_likeInts.f k l0 l1 = some r) :
    Calls Try.prog 12 #[.slice A0 l0.length c0, .slice A1 l1.length c1] w fun e w' => e = .returned (.bool r) ∧ Drawn0 w w' := by
  have HR0 := Aside0.mk hr0
  have HC0 := Aside0.mk hc0
  clear hr0 hc0
  have HR1 := Aside0.mk hr1
  have HC1 := Aside0.mk hc1
  clear hr1 hc1
  have H : (if (l0.length : Int) = (l1.length : Int) then (laws_likeInts.l0 k l0 l1 0) else (some false)) = some r := h
  clear h
  by_cases c3 : (l0.length : Int) = (l1.length : Int)
  · rw [if_pos c3] at H
    have c3b0 := zq1 c3
    have c3b1 := zq2 c3
    have c3b2 : (l0.length == l1.length) = true := by first | simpa using c3 | (simp at c3 ⊢; omega)
    clear c3
    have H' := Aside0.mk H
    clear H
    go_enter Try.func12, Try.ntmps12
    go_wp2
    repeat (go_quiet (fail); try go_wp2)
    go_loopg [5] k (fun kq v5 w' => ∃ (x5_1 : Int), v5 = .int .i64 x5_1 ∧ Aside0 (laws_likeInts.l0 kq l0 l1 x5_1 = some r) ∧ Aside0 (kq ≤ k) ∧ Drawn0 w w')
    case atStart => exact ⟨(0), (zF), H', ⟨Nat.le_refl _⟩, zD⟩
    case round =>
      clear H'
      try clear c1
      try clear p2
      try clear c3
      try clear c3b0
      try clear c3b1
      try clear c3b2
      obtain ⟨x5_1, rfl, HA, HK1, ⟨m1, rfl⟩⟩ := hrel
      cases gk with
      | zero => exact absurd HA.out (by simp [laws_likeInts.l0])
      | succ k1 =>
        have H := HA.out
        clear HA
        simp only [laws_likeInts.l0] at H
        by_cases c4 : x5_1 < (l0.length : Int)
        · rw [if_pos c4] at H
          have c4b0 := decide_eq_true c4
          clear c4
          by_cases c5 : 0 ≤ x5_1
          · rw [if_pos c5] at H
            have c5b0 := decide_eq_true c5
            clear c5
            by_cases c6 : x5_1 < (l1.length : Int)
            · rw [if_pos c6] at H
              have c6b0 := decide_eq_true c6
              clear c6
              by_cases c7 : (rd l0 x5_1) = (rd l1 x5_1)
              · rw [if_pos c7] at H
                have c7b0 := zq1 c7
                have c7b1 := zq2 c7
                clear c7
                have H' := Aside0.mk H
                clear H
                have p471 : 0 ≤ (x5_1 : Int) := of_decide_eq_true (by first | (with_reducible assumption) | assumption)
                have q471 : x5_1 < (l0.length : Int) := of_decide_eq_true (by first | (with_reducible assumption) | assumption)
                obtain ⟨ad471, e471, hx471_0⟩ := Kd.at_int HR0.out x5_1 p471 q471
                cases e471
                replace p471 := eq_true p471
                replace q471 := eq_true q471
                have p472 : 0 ≤ (x5_1 : Int) := of_decide_eq_true (by first | (with_reducible assumption) | assumption)
                have q472 : x5_1 < (l1.length : Int) := of_decide_eq_true (by first | (with_reducible assumption) | assumption)
                obtain ⟨ad472, e472, hx472_0⟩ := Kd.at_int HR1.out x5_1 p472 q472
                cases e472
                replace p472 := eq_true p472
                replace q472 := eq_true q472
                go_wp2
                repeat (go_quiet (fail); try go_wp2)
                go_roundg k1
                case measure => have := HK1.out; omega
                case rel => exact ⟨(wrap64 (x5_1 + 1)), (zF), H', ⟨by have := HK1.out; omega⟩, zD⟩
              · rw [if_neg c7] at H
                have c7b0 := zq3 c7
                have c7b1 := zq4 c7
                obtain rfl := Option.some.inj H
                have p471 : 0 ≤ (x5_1 : Int) := of_decide_eq_true (by first | (with_reducible assumption) | assumption)
                have q471 : x5_1 < (l0.length : Int) := of_decide_eq_true (by first | (with_reducible assumption) | assumption)
                obtain ⟨ad471, e471, hx471_0⟩ := Kd.at_int HR0.out x5_1 p471 q471
                cases e471
                replace p471 := eq_true p471
                replace q471 := eq_true q471
                have p472 : 0 ≤ (x5_1 : Int) := of_decide_eq_true (by first | (with_reducible assumption) | assumption)
                have q472 : x5_1 < (l1.length : Int) := of_decide_eq_true (by first | (with_reducible assumption) | assumption)
                obtain ⟨ad472, e472, hx472_0⟩ := Kd.at_int HR1.out x5_1 p472 q472
                cases e472
                replace p472 := eq_true p472
                replace q472 := eq_true q472
                go_wp2
                repeat (go_quiet (fail); try go_wp2)
                go_ret
                exact ⟨zF, zD⟩
            · rw [if_neg c6] at H
              exact absurd H (by simp)
          · rw [if_neg c5] at H
            exact absurd H (by simp)
        · rw [if_neg c4] at H
          have c4b0 := decide_eq_false c4
          clear c4
          obtain rfl := Option.some.inj H
          go_wp2
          repeat (go_quiet (fail); try go_wp2)
          go_ret
          exact ⟨zF, zD⟩
  · rw [if_neg c3] at H
    have c3b0 := zq3 c3
    have c3b1 := zq4 c3
    have c3b2 : (l0.length == l1.length) = false := by first | simpa using c3 | (simp at c3 ⊢; omega)
    obtain rfl := Option.some.inj H
    go_enter Try.func12, Try.ntmps12
    go_wp2
    repeat (go_quiet (fail); try go_wp2)
    go_ret
    exact ⟨zF, zD⟩

/-! ### spec_l07Spoil: function 31 -/
def spec_l07Spoil.f (k : Nat) (l0 : List Int) : Option (Int × List Int) := (spec_l01From.f k l0).bind fun bt474 => ((spec_l07Draw.f k bt474.1 bt474.2.1 bt474.2.2).bind fun bt478 => ((spec_l07Bad.f bt474.1 bt478.2.2.1 bt478.2.2.2 bt478.1 bt478.2.1).bind fun bt484 => (some (bt484.1, bt484.2.1))))
theorem spec_l07Spoil.mono : ∀ a0 k, LeO (spec_l07Spoil.f k a0) (spec_l07Spoil.f (k + 1) a0) := by
  intro a0 k
  unfold spec_l07Spoil.f
  repeat' first
      | (with_reducible exact spec_l01From.mono _ _)
      | (with_reducible exact spec_l07Draw.mono _ _ _ _)
      | (with_reducible exact LeO.refl _)
      | (with_reducible exact LeO.none _)
      | (with_reducible refine LeO.ite ?_ ?_)
      | (with_reducible refine LeO.bind ?_ (fun _ => ?_))
      | exact spec_l01From.mono _ _
      | exact spec_l07Draw.mono _ _ _ _
      | exact LeO.none _
      | refine LeO.ite ?_ ?_
      | refine LeO.bind ?_ (fun _ => ?_)
set_option maxHeartbeats 8000000 in
set_option maxRecDepth 100000 in
theorem spec_l07Spoil.calls (k : Nat) (A0 : Option Addr) (c0 : Nat) (l0 : List Int) (r1 : Int) (r2 : List Int) (w : World) (hr0 : Kd.C (Kd.int .u8) w A0 l0.length l0) (hc0 : l0.length ≤ c0) (h : spec_l07Spoil.f k l0 = some (r1, r2)) :
    Calls Try.prog 31 #[.slice A0 l0.length c0] w fun e w' => ∃ v1_ : Value, e = .returned (.agg #[.int .i64 r1, v1_]) ∧ Kd.R (Kd.int .i64) 2 w' w.heap.size (fun _ => True) v1_ r2 ∧ Below w.heap.size w w' := by
  have hu26 := Try.underlying26
  have HR0 := Aside0.mk hr0
  have HC0 := Aside0.mk hc0
  clear hr0 hc0
  have HB := Aside0.mk (Below.refl w.heap.size w)
  have H : ((spec_l01From.f k l0).bind fun bt474 => ((spec_l07Draw.f k bt474.1 bt474.2.1 bt474.2.2).bind fun bt478 => ((spec_l07Bad.f bt474.1 bt478.2.2.1 bt478.2.2.2 bt478.1 bt478.2.1).bind fun bt484 => (some (bt484.1, bt484.2.1))))) = some (r1, r2) := h
  clear h
  obtain ⟨⟨t474, t475, t476⟩, A2, H⟩ := zb H; (try dsimp only at H)
  obtain ⟨⟨t478, t479, t482, t483⟩, A3, H⟩ := zb H; (try dsimp only at H)
  obtain ⟨⟨t484, t485, t488, t489⟩, A4, H⟩ := zb H; (try dsimp only at H)
  simp only [Option.some.injEq, Prod.mk.injEq] at H
  obtain ⟨rfl, rfl⟩ := H
  go_enter Try.func31, Try.ntmps31
  go_wp2_with (first | ((with_reducible refine gate_dst (N := 2) rfl ?_); refine zX 2 #[.int .i64 0, .slice none 0 0] 26 ?_; intro gb473 hg w5 hbox hb; refine zA4 (below_step (zH HB.out) hb) (hbox) ((zS hg (below_size (zH HB.out)) : w.heap.size ≤ gb473)) ((zS hg (below_size (zH HB.out)) : w.heap.size ≤ gb473)) ?_; clear HB; intro HB BK473 GW473 GE473; clear hb hbox hg) | ((with_reducible refine gate_callee (f := 39) rfl ?_); refine goesL_ (some 5) rfl rfl Try.func39 (by kernel_rfl) rfl #[.slice A0 l0.length c0] rfl zM ?_; (with_reducible refine (spec_l01From.calls k _ _ l0 t474 t475 t476 w _ ?side1 ?side2 ?side3 A2.out).mono ?_); (case side1 => exact zH1 HB.out GE473.out); (case side2 => exact HR0.out); (case side3 => exact HC0.out); rintro e w6 ⟨g477, rfl, hi, hb, hb2⟩; refine ⟨_, rfl, ?_⟩; refine zA5 (blk_below (g := gb473) (o := .cells #[.int .i64 0, .slice none 0 0] 26 (0, 0)) (zB BK473.out) hb2) (hb) (hi) (IsS81.ne_blk hi (blk_below (g := gb473) (o := .cells #[.int .i64 0, .slice none 0 0] 26 (0, 0)) (zB BK473.out) hb2) (by decide)) (Ne.symm (IsS81.ne_blk hi (blk_below (g := gb473) (o := .cells #[.int .i64 0, .slice none 0 0] 26 (0, 0)) (zB BK473.out) hb2) (by decide))) ?_; clear BK473 HB; intro BK473 HB HI477 NB477_473 NB473_477; (try clear hb); (try clear hb2); (try clear hk); (try clear hi)) | ((with_reducible refine gate_callee (f := 40) rfl ?_); refine goesL_ (some 8) rfl rfl Try.func40 (by kernel_rfl) rfl #[.pointer (some ⟨g477, 0, none⟩)] rfl zM ?_; (with_reducible refine (spec_l07Draw.calls k g477 t474 t475 t476 t478 t479 t482 t483 w _ ?side1 ?side2 A3.out).mono ?_); (case side1 => repeat (first | (with_reducible first | exact HI477.out | apply IsS81.alloc | apply IsS81.drewN | apply IsS81.drew | apply IsS81.set_1 | apply IsS81.set_2 | refine IsS81.far ?_ NB477_473.out _) | exact HI477.out)); (case side2 => repeat (first | (with_reducible first | exact HB.out | apply below_alloc | apply pw_below_drewN | apply below_drew1 | refine below_set ?_ (IsS81.ge HI477.out) | refine below_set ?_ GE473.out) | exact HB.out)); rintro e w7 ⟨v480, rfl, ho0, hi, hb, hk⟩; refine ⟨_, rfl, ?_⟩; refine zA4 (KeepBut.blk hk (g' := gb473) (o := .cells #[.int .i64 0, .slice none 0 0] 26 (0, 0)) (zB BK473.out) NB473_477.out (by simp)) (Kd.R_lower ho0 (below_size (by repeat (first | (with_reducible first | exact HB.out | apply below_alloc | apply pw_below_drewN | apply below_drew1 | refine below_set ?_ (IsS81.ge HI477.out) | refine below_set ?_ GE473.out) | exact HB.out)))) (hb) (hi) ?_; clear BK473 HB HI477; intro BK473 HO481 HB HI477; (try clear hb); (try clear hb2); (try clear hk); (try clear hi); (try clear ho0); obtain ⟨Ao8, co8, eo8⟩ := Kd.R_slice HO481.out; subst eo8) | ((with_reducible refine gate_callee (f := 44) rfl ?_); refine goesL_ (some 9) rfl rfl Try.func44 (by kernel_rfl) rfl #[.pointer (some ⟨g477, 0, none⟩), .agg #[.int .i64 t478, .slice Ao8 t479.length co8]] rfl zM ?_; (with_reducible refine (spec_l07Bad.calls g477 t474 t482 t483 t478 _ _ t479 t484 t485 t488 t489 w _ ?side1 ?side2 ?side3 ?side4 ?side5 A4.out).mono ?_); (case side1 => repeat (first | (with_reducible first | exact HI477.out | apply IsS81.alloc | apply IsS81.drewN | apply IsS81.drew | apply IsS81.set_1 | apply IsS81.set_2 | refine IsS81.far ?_ NB477_473.out _) | exact HI477.out)); (case side2 => repeat (first | (with_reducible first | exact HB.out | apply below_alloc | apply pw_below_drewN | apply below_drew1 | refine below_set ?_ (IsS81.ge HI477.out) | refine below_set ?_ GE473.out) | exact HB.out)); (case side3 => repeat (first | exact (Kd.R_reads' HO481.out).2.2 | (with_reducible refine Kd.C_alloc ?_ _) | (with_reducible refine Kd.C_drewN ?_ _) | (with_reducible refine Kd.C_drew ?_))); (case side4 => exact (Kd.R_reads' HO481.out).2.1); (case side5 => exact far_slice (IsS81.own_ne HI477.out HO481.out (by decide))); rintro e w9 ⟨v486, rfl, ho0, hi, hb, hk⟩; refine ⟨_, rfl, ?_⟩; refine zA5 (KeepBut.blk hk (g' := gb473) (o := .cells #[.int .i64 0, .slice none 0 0] 26 (0, 0)) (zB BK473.out) NB473_477.out (by simp)) (Kd.R_mono (Kd.R_told (Kd.R_oldK (IsS81.apart (show IsS81 w _ g477 t474 t482 t483 from by repeat (first | (with_reducible first | exact HI477.out | apply IsS81.alloc | apply IsS81.drewN | apply IsS81.drew | apply IsS81.set_1 | apply IsS81.set_2 | refine IsS81.far ?_ NB477_473.out _) | exact HI477.out)) (zR HO481.out) (by decide)) hk) (Kd.R_base ho0)) (fun _ h_ => h_.1)) (Kd.R_lower (Kd.R_new' ho0 (Kd.R_lt (zR HO481.out))) (below_size (by repeat (first | (with_reducible first | exact HB.out | apply below_alloc | apply pw_below_drewN | apply below_drew1 | refine below_set ?_ (IsS81.ge HI477.out) | refine below_set ?_ GE473.out) | exact HB.out)))) (hb) (hi) ?_; clear BK473 HO481 HB HI477; intro BK473 HO481 HO487 HB HI477; (try clear hb); (try clear hb2); (try clear hk); (try clear hi); (try clear ho0); have hnb10 := NB473_477.out; have hnc10 := NB477_473.out; obtain ⟨hcz11_0, hcz11_1⟩ := zc2 BK473; obtain ⟨hfz11_0, hfz11_1⟩ := zf2 BK473; obtain ⟨Ao12, co12, eo12⟩ := Kd.R_slice HO487.out; subst eo12))
  refine bodyPost_ret (results_cell_row rfl _ _ gb473 26 #[.int .i64 t484, .slice Ao12 t485.length co12] (0, 0) _ rfl (by (with_reducible repeat (first | refine blk_drewN ?_ _ | refine blk_drew ?_ | refine blk_alloc ?_ _)); refine blk_put (cs := #[.int .i64 t484, .slice none 0 0]) ?_ 1 _ rfl; (with_reducible repeat (first | refine blk_drewN ?_ _ | refine blk_drew ?_ | refine blk_alloc ?_ _)); refine blk_put (cs := #[.int .i64 0, .slice none 0 0]) ?_ 0 _ rfl; (with_reducible repeat (first | refine blk_drewN ?_ _ | refine blk_drew ?_ | refine blk_alloc ?_ _)); exact BK473.out) Try.underlying26 rfl (by kernel_rfl)) rfl ?_
  exact ⟨_, zE, by (with_reducible repeat (first | apply Kd.R_alloc | apply Kd.R_drewN | apply Kd.R_drew)); exact Kd.R_mono (Kd.R_far (p := ⟨gb473, 1, none⟩) (Kd.R_far (p := ⟨gb473, 0, none⟩) (Kd.R_types HO487.out BK473.out (by decide)) (fun _ hk => hk.2) (.int .i64 t484)) (fun _ hk => hk.2) (.slice Ao12 t485.length co12)) (fun _ hk => trivial), by repeat (first | (with_reducible first | exact HB.out | apply below_alloc | apply pw_below_drewN | apply below_drew1 | refine below_set ?_ (IsS81.ge HI477.out) | refine below_set ?_ GE473.out) | exact HB.out)⟩

/-! ### spec_DrawPlayRace: function 13 -/
def spec_DrawPlayRace.f (k : Nat) (l0 : List Int) : Option (Int × List Int) := (spec_l07Spoil.f k l0).bind fun bt491 => (some (bt491.1, bt491.2))
theorem spec_DrawPlayRace.mono : ∀ a0 k, LeO (spec_DrawPlayRace.f k a0) (spec_DrawPlayRace.f (k + 1) a0) := by
  intro a0 k
  unfold spec_DrawPlayRace.f
  repeat' first
      | (with_reducible exact spec_l07Spoil.mono _ _)
      | (with_reducible exact LeO.refl _)
      | (with_reducible exact LeO.none _)
      | (with_reducible refine LeO.ite ?_ ?_)
      | (with_reducible refine LeO.bind ?_ (fun _ => ?_))
      | exact spec_l07Spoil.mono _ _
      | exact LeO.none _
      | refine LeO.ite ?_ ?_
      | refine LeO.bind ?_ (fun _ => ?_)
set_option maxHeartbeats 8000000 in
set_option maxRecDepth 100000 in
theorem spec_DrawPlayRace.calls (k : Nat) (A0 : Option Addr) (c0 : Nat) (l0 : List Int) (r1 : Int) (r2 : List Int) (w : World) (hr0 : Kd.C (Kd.int .u8) w A0 l0.length l0) (hc0 : l0.length ≤ c0) (h : spec_DrawPlayRace.f k l0 = some (r1, r2)) :
    Calls Try.prog 13 #[.slice A0 l0.length c0] w fun e w' => ∃ v1_ : Value, e = .returned (.agg #[.int .i64 r1, v1_]) ∧ Kd.R (Kd.int .i64) 2 w' w.heap.size (fun _ => True) v1_ r2 ∧ Below w.heap.size w w' := by
  have hu26 := Try.underlying26
  have HR0 := Aside0.mk hr0
  have HC0 := Aside0.mk hc0
  clear hr0 hc0
  have HB := Aside0.mk (Below.refl w.heap.size w)
  have H : ((spec_l07Spoil.f k l0).bind fun bt491 => (some (bt491.1, bt491.2))) = some (r1, r2) := h
  clear h
  obtain ⟨⟨t491, t492⟩, A2, H⟩ := zb H; (try dsimp only at H)
  simp only [Option.some.injEq, Prod.mk.injEq] at H
  obtain ⟨rfl, rfl⟩ := H
  go_enter Try.func13, Try.ntmps13
  go_wp2_with (first | ((with_reducible refine gate_dst (N := 2) rfl ?_); refine zX 2 #[.int .i64 0, .slice none 0 0] 26 ?_; intro gb490 hg w3 hbox hb; refine zA4 (below_step (zH HB.out) hb) (hbox) ((zS hg (below_size (zH HB.out)) : w.heap.size ≤ gb490)) ((zS hg (below_size (zH HB.out)) : w.heap.size ≤ gb490)) ?_; clear HB; intro HB BK490 GW490 GE490; clear hb hbox hg) | ((with_reducible refine gate_callee (f := 31) rfl ?_); refine goesL_ (some 4) rfl rfl Try.func31 (by kernel_rfl) rfl #[.slice A0 l0.length c0] rfl zM ?_; (with_reducible refine (spec_l07Spoil.calls k _ _ l0 t491 t492 _ ?side1 ?side2 A2.out).mono ?_); (case side1 => repeat (first | exact (Kd.C_below HR0.out HB.out) | (with_reducible refine Kd.C_alloc ?_ _) | (with_reducible refine Kd.C_drewN ?_ _) | (with_reducible refine Kd.C_drew ?_))); (case side2 => exact HC0.out); rintro e w4 ⟨v493, rfl, ho0, hb⟩; refine ⟨_, rfl, ?_⟩; refine zA3 (Kd.R_lower ho0 (below_size (zH1 HB.out GE490.out))) (blk_below (g := gb490) (o := .cells #[.int .i64 0, .slice none 0 0] 26 (0, 0)) (zB BK490.out) hb) (below_step (zH1 HB.out GE490.out) hb) ?_; clear BK490 HB; intro HO494 BK490 HB; (try clear hb); (try clear hb2); (try clear hk); (try clear hi); (try clear ho0); obtain ⟨hcz5_0, hcz5_1⟩ := zc2 BK490; obtain ⟨hfz5_0, hfz5_1⟩ := zf2 BK490; obtain ⟨Ao6, co6, eo6⟩ := Kd.R_slice HO494.out; subst eo6))
  refine bodyPost_ret (results_cell_row rfl _ _ gb490 26 #[.int .i64 t491, .slice Ao6 t492.length co6] (0, 0) _ rfl (by (with_reducible repeat (first | refine blk_drewN ?_ _ | refine blk_drew ?_ | refine blk_alloc ?_ _)); refine blk_put (cs := #[.int .i64 t491, .slice none 0 0]) ?_ 1 _ rfl; (with_reducible repeat (first | refine blk_drewN ?_ _ | refine blk_drew ?_ | refine blk_alloc ?_ _)); refine blk_put (cs := #[.int .i64 0, .slice none 0 0]) ?_ 0 _ rfl; (with_reducible repeat (first | refine blk_drewN ?_ _ | refine blk_drew ?_ | refine blk_alloc ?_ _)); exact BK490.out) Try.underlying26 rfl (by kernel_rfl)) rfl ?_
  exact ⟨_, zE, by (with_reducible repeat (first | apply Kd.R_alloc | apply Kd.R_drewN | apply Kd.R_drew)); exact Kd.R_mono (Kd.R_far (p := ⟨gb490, 1, none⟩) (Kd.R_far (p := ⟨gb490, 0, none⟩) (Kd.R_types HO494.out BK490.out (by decide)) (fun _ hk => hk.2) (.int .i64 t491)) (fun _ hk => hk.2) (.slice Ao6 t492.length co6)) (fun _ hk => trivial), zH1 HB.out GE490.out⟩

/-! ### spec_l07Small: function 36 -/
def spec_l07Small.f (k : Nat) (a0_0 : Int) (l0_1 : List Int) : Option (Int) := (spec_l07Is.f k a0_0 l0_1).bind fun t496 => (if t496 = true then (if a0_0 > 9 then (some 3) else (some 0)) else (some 1))
theorem spec_l07Small.mono : ∀ a0 a1 k, LeO (spec_l07Small.f k a0 a1) (spec_l07Small.f (k + 1) a0 a1) := by
  intro a0 a1 k
  unfold spec_l07Small.f
  repeat' first
      | (with_reducible exact spec_l07Is.mono _ _ _)
      | (with_reducible exact LeO.refl _)
      | (with_reducible exact LeO.none _)
      | (with_reducible refine LeO.ite ?_ ?_)
      | (with_reducible refine LeO.bind ?_ (fun _ => ?_))
      | exact spec_l07Is.mono _ _ _
      | exact LeO.none _
      | refine LeO.ite ?_ ?_
      | refine LeO.bind ?_ (fun _ => ?_)
set_option maxHeartbeats 8000000 in
set_option maxRecDepth 100000 in
theorem spec_l07Small.calls (k : Nat) (a0_0 : Int) (A0_1 : Option Addr) (c0_1 : Nat) (l0_1 : List Int) (r : Int) (w : World) (hr0_1 : Kd.C (Kd.int .i64) w A0_1 l0_1.length l0_1) (hc0_1 : l0_1.length ≤ c0_1) (h : spec_l07Small.f k a0_0 l0_1 = some r) :
    Calls Try.prog 36 #[.agg #[.int .i64 a0_0, .slice A0_1 l0_1.length c0_1]] w fun e w' => e = .returned (.int .i64 r) ∧ Below w.heap.size w w' := by
  have hu26 := Try.underlying26
  have HR0_1 := Aside0.mk hr0_1
  have HC0_1 := Aside0.mk hc0_1
  clear hr0_1 hc0_1
  have HB := Aside0.mk (Below.refl w.heap.size w)
  have H : ((spec_l07Is.f k a0_0 l0_1).bind fun t496 => (if t496 = true then (if a0_0 > 9 then (some 3) else (some 0)) else (some 1))) = some r := h
  clear h
  obtain ⟨t496, A2, H⟩ := zb H
  by_cases c3 : t496 = true
  · subst c3
    have H1 : (if a0_0 > 9 then (some 3) else (some 0)) = some r := by rw [if_pos rfl] at H; exact H
    clear H
    have H := H1
    clear H1
    by_cases c4 : a0_0 > 9
    · rw [if_pos c4] at H
      have c4b0 := decide_eq_true c4
      clear c4
      obtain rfl := Option.some.inj H
      go_enter Try.func36, Try.ntmps36
      go_wp2_with (first | ((with_reducible refine gate_dst (N := 1) rfl ?_); refine zX 1 #[.int .i64 a0_0, .slice A0_1 l0_1.length c0_1] 26 ?_; intro gb495 hg w5 hbox hb; refine zA4 (below_step (zH HB.out) hb) (hbox) ((zS hg (below_size (zH HB.out)) : w.heap.size ≤ gb495)) ((zS hg (below_size (zH HB.out)) : w.heap.size ≤ gb495)) ?_; clear HB; intro HB BK495 GW495 GE495; clear hb hbox hg; obtain ⟨hcz6_0, hcz6_1⟩ := zc2 BK495; obtain ⟨hfz6_0, hfz6_1⟩ := zf2 BK495) | ((with_reducible refine gate_callee (f := 53) rfl ?_); refine goesL_ (some 5) rfl rfl Try.func53 (by kernel_rfl) rfl #[.agg #[.int .i64 a0_0, .slice A0_1 l0_1.length c0_1]] rfl zM ?_; (with_reducible refine (spec_l07Is.calls k a0_0 _ _ l0_1 true _ ?side1 ?side2 A2.out).mono ?_); (case side1 => repeat (first | exact (Kd.C_below HR0_1.out HB.out) | (with_reducible refine Kd.C_alloc ?_ _) | (with_reducible refine Kd.C_drewN ?_ _) | (with_reducible refine Kd.C_drew ?_))); (case side2 => exact HC0_1.out); rintro e w7 ⟨rfl, hb⟩; refine ⟨_, rfl, ?_⟩; refine zA2 (blk_below (g := gb495) (o := .cells #[.int .i64 a0_0, .slice A0_1 l0_1.length c0_1] 26 (0, 0)) (zB BK495.out) hb) (below_step (zH1 HB.out GE495.out) hb) ?_; clear BK495 HB; intro BK495 HB; (try clear hb); (try clear hb2); (try clear hk); (try clear hi); obtain ⟨hcz8_0, hcz8_1⟩ := zc2 BK495; obtain ⟨hfz8_0, hfz8_1⟩ := zf2 BK495))
      go_ret
      exact ⟨zE, zH1 HB.out GE495.out⟩
    · rw [if_neg c4] at H
      have c4b0 := decide_eq_false c4
      clear c4
      obtain rfl := Option.some.inj H
      go_enter Try.func36, Try.ntmps36
      go_wp2_with (first | ((with_reducible refine gate_dst (N := 1) rfl ?_); refine zX 1 #[.int .i64 a0_0, .slice A0_1 l0_1.length c0_1] 26 ?_; intro gb495 hg w9 hbox hb; refine zA4 (below_step (zH HB.out) hb) (hbox) ((zS hg (below_size (zH HB.out)) : w.heap.size ≤ gb495)) ((zS hg (below_size (zH HB.out)) : w.heap.size ≤ gb495)) ?_; clear HB; intro HB BK495 GW495 GE495; clear hb hbox hg; obtain ⟨hcz10_0, hcz10_1⟩ := zc2 BK495; obtain ⟨hfz10_0, hfz10_1⟩ := zf2 BK495) | ((with_reducible refine gate_callee (f := 53) rfl ?_); refine goesL_ (some 5) rfl rfl Try.func53 (by kernel_rfl) rfl #[.agg #[.int .i64 a0_0, .slice A0_1 l0_1.length c0_1]] rfl zM ?_; (with_reducible refine (spec_l07Is.calls k a0_0 _ _ l0_1 true _ ?side1 ?side2 A2.out).mono ?_); (case side1 => repeat (first | exact (Kd.C_below HR0_1.out HB.out) | (with_reducible refine Kd.C_alloc ?_ _) | (with_reducible refine Kd.C_drewN ?_ _) | (with_reducible refine Kd.C_drew ?_))); (case side2 => exact HC0_1.out); rintro e w11 ⟨rfl, hb⟩; refine ⟨_, rfl, ?_⟩; refine zA2 (blk_below (g := gb495) (o := .cells #[.int .i64 a0_0, .slice A0_1 l0_1.length c0_1] 26 (0, 0)) (zB BK495.out) hb) (below_step (zH1 HB.out GE495.out) hb) ?_; clear BK495 HB; intro BK495 HB; (try clear hb); (try clear hb2); (try clear hk); (try clear hi); obtain ⟨hcz12_0, hcz12_1⟩ := zc2 BK495; obtain ⟨hfz12_0, hfz12_1⟩ := zf2 BK495))
      go_ret
      exact ⟨zE, zH1 HB.out GE495.out⟩
  · replace c3 := Bool.eq_false_iff.mpr c3
    subst c3
    have H1 : (some 1) = some r := by rw [if_neg (show ¬ (false = true) by decide)] at H; exact H
    clear H
    have H := H1
    clear H1
    obtain rfl := Option.some.inj H
    go_enter Try.func36, Try.ntmps36
    go_wp2_with (first | ((with_reducible refine gate_dst (N := 1) rfl ?_); refine zX 1 #[.int .i64 a0_0, .slice A0_1 l0_1.length c0_1] 26 ?_; intro gb495 hg w13 hbox hb; refine zA4 (below_step (zH HB.out) hb) (hbox) ((zS hg (below_size (zH HB.out)) : w.heap.size ≤ gb495)) ((zS hg (below_size (zH HB.out)) : w.heap.size ≤ gb495)) ?_; clear HB; intro HB BK495 GW495 GE495; clear hb hbox hg; obtain ⟨hcz14_0, hcz14_1⟩ := zc2 BK495; obtain ⟨hfz14_0, hfz14_1⟩ := zf2 BK495) | ((with_reducible refine gate_callee (f := 53) rfl ?_); refine goesL_ (some 5) rfl rfl Try.func53 (by kernel_rfl) rfl #[.agg #[.int .i64 a0_0, .slice A0_1 l0_1.length c0_1]] rfl zM ?_; (with_reducible refine (spec_l07Is.calls k a0_0 _ _ l0_1 false _ ?side1 ?side2 A2.out).mono ?_); (case side1 => repeat (first | exact (Kd.C_below HR0_1.out HB.out) | (with_reducible refine Kd.C_alloc ?_ _) | (with_reducible refine Kd.C_drewN ?_ _) | (with_reducible refine Kd.C_drew ?_))); (case side2 => exact HC0_1.out); rintro e w15 ⟨rfl, hb⟩; refine ⟨_, rfl, ?_⟩; refine zA2 (blk_below (g := gb495) (o := .cells #[.int .i64 a0_0, .slice A0_1 l0_1.length c0_1] 26 (0, 0)) (zB BK495.out) hb) (below_step (zH1 HB.out GE495.out) hb) ?_; clear BK495 HB; intro BK495 HB; (try clear hb); (try clear hb2); (try clear hk); (try clear hi)))
    go_ret
    exact ⟨zE, zH1 HB.out GE495.out⟩

/-! ### impl_FilledLine: function 16 -/
def impl_FilledLine.l0 : Nat → List Int → Int → Int → Int → List Int → Option (Int × Int × Int)
  | 0, _, _, _, _, _ => none
  | k + 1, x22, x23, x24, x519000, x519001 => if x24 < x23 then (if 0 ≤ x24 then (if x24 < (x22.length : Int) then ((impl_Board_filled.f k x519000 x519001 (rd x22 x24)).bind fun t524 => (if t524 = 0 then (impl_FilledLine.l0 k x22 x23 (wrap64 (x24 + 1)) x519000 x519001) else (some (x24, t524, 0)))) else (none)) else (none)) else (some (0, 0, 4))
def impl_FilledLine.f (k : Nat) (a0_0 : Int) (l0_1 : List Int) (a1 : Int) (a2 : Int) : Option (Int × Int × Int) := (impl_stateCode.f k a0_0 l0_1 a1 a2).bind fun t519 => (if t519 = 0 then ((some (([a1, a2] : List Int) : List Int)).bind fun y520 => (impl_FilledLine.l0 k y520 (y520.length : Int) 0 a0_0 l0_1)) else (some (0, 0, t519)))
theorem impl_FilledLine.mono_l : ∀ k, (∀ y0 y1 y2 y3 y4, LeO (impl_FilledLine.l0 k y0 y1 y2 y3 y4) (impl_FilledLine.l0 (k + 1) y0 y1 y2 y3 y4))
  | 0 => fun _ _ _ _ _ r h => by simp [impl_FilledLine.l0] at h
  | k + 1 => by
    have ih0 := impl_FilledLine.mono_l k
    · intro y0 y1 y2 y3 y4
      unfold impl_FilledLine.l0
      repeat' first
      | (with_reducible exact ih0 _ _ _ _ _)
      | (with_reducible exact impl_Board_filled.mono _ _ _ _)
      | (with_reducible exact impl_stateCode.mono _ _ _ _ _)
      | (with_reducible exact LeO.refl _)
      | (with_reducible exact LeO.none _)
      | (with_reducible refine LeO.ite ?_ ?_)
      | (with_reducible refine LeO.bind ?_ (fun _ => ?_))
      | exact ih0 _ _ _ _ _
      | exact impl_Board_filled.mono _ _ _ _
      | exact impl_stateCode.mono _ _ _ _ _
      | exact LeO.none _
      | refine LeO.ite ?_ ?_
      | refine LeO.bind ?_ (fun _ => ?_)
theorem impl_FilledLine.mono : ∀ a0 a1 a2 a3 k, LeO (impl_FilledLine.f k a0 a1 a2 a3) (impl_FilledLine.f (k + 1) a0 a1 a2 a3) := by
  intro a0 a1 a2 a3 k
  have ih0 := impl_FilledLine.mono_l k
  unfold impl_FilledLine.f
  repeat' first
      | (with_reducible exact ih0 _ _ _ _ _)
      | (with_reducible exact impl_Board_filled.mono _ _ _ _)
      | (with_reducible exact impl_stateCode.mono _ _ _ _ _)
      | (with_reducible exact LeO.refl _)
      | (with_reducible exact LeO.none _)
      | (with_reducible refine LeO.ite ?_ ?_)
      | (with_reducible refine LeO.bind ?_ (fun _ => ?_))
      | exact ih0 _ _ _ _ _
      | exact impl_Board_filled.mono _ _ _ _
      | exact impl_stateCode.mono _ _ _ _ _
      | exact LeO.none _
      | refine LeO.ite ?_ ?_
      | refine LeO.bind ?_ (fun _ => ?_)
set_option maxHeartbeats 8000000 in
set_option maxRecDepth 100000 in
theorem impl_FilledLine.calls (k : Nat) (a0_0 : Int) (A0_1 : Option Addr) (c0_1 : Nat) (l0_1 : List Int) (a1 : Int) (a2 : Int) (r1 : Int) (r2 : Int) (r3 : Int) (w : World) (hr0_1 : Kd.C (Kd.int .i64) w A0_1 l0_1.length l0_1) (hc0_1 : l0_1.length ≤ c0_1) (h : impl_FilledLine.f k a0_0 l0_1 a1 a2 = some (r1, r2, r3)) :
    Calls Try.prog 16 #[.agg #[.int .i64 a0_0, .slice A0_1 l0_1.length c0_1], .int .i64 a1, .int .i64 a2] w fun e w' => e = .returned (.tuple #[.int .i64 r1, .int .i64 r2, .int .i64 r3]) ∧ Below w.heap.size w w' := by
  have hu26 := Try.underlying26
  have HR0_1 := Aside0.mk hr0_1
  have HC0_1 := Aside0.mk hc0_1
  clear hr0_1 hc0_1
  have HB := Aside0.mk (Below.refl w.heap.size w)
  have H : ((impl_stateCode.f k a0_0 l0_1 a1 a2).bind fun t519 => (if t519 = 0 then ((some (([a1, a2] : List Int) : List Int)).bind fun y520 => (impl_FilledLine.l0 k y520 (y520.length : Int) 0 a0_0 l0_1)) else (some (0, 0, t519)))) = some (r1, r2, r3) := h
  clear h
  obtain ⟨t519, A4, H⟩ := zb H
  by_cases c5 : t519 = 0
  · rw [if_pos c5] at H
    have c5b0 := zq1 c5
    have c5b1 := zq2 c5
    clear c5
    obtain ⟨y520, hy520⟩ : ∃ y_ : List Int, y_ = (([a1, a2] : List Int)) := ⟨_, rfl⟩
    replace H : (impl_FilledLine.l0 k y520 (y520.length : Int) 0 a0_0 l0_1) = some (r1, r2, r3) := by first | (rw [hy520]; with_reducible exact H) | (have H2_ := (Option.bind_some _ _).symm.trans H; rw [hy520]; with_reducible exact H2_) | (have H2_ := (Option.bind_some _ _).symm.trans H; with_reducible exact H2_) | with_reducible exact H | (rw [hy520]; exact H) | exact H
    have Ny520 := Aside0.mk hy520
    clear hy520
    have H' := Aside0.mk H
    clear H
    go_enter Try.func16, Try.ntmps16
    go_wp2_with (first | ((with_reducible refine gate_dst (N := 3) rfl ?_); refine zX 3 #[.int .i64 a0_0, .slice A0_1 l0_1.length c0_1] 26 ?_; intro gb518 hg w6 hbox hb; refine zA4 (below_step (zH HB.out) hb) (hbox) ((zS hg (below_size (zH HB.out)) : w.heap.size ≤ gb518)) ((zS hg (below_size (zH HB.out)) : w.heap.size ≤ gb518)) ?_; clear HB; intro HB BK518 GW518 GE518; clear hb hbox hg; obtain ⟨hcz7_0, hcz7_1⟩ := zc2 BK518; obtain ⟨hfz7_0, hfz7_1⟩ := zf2 BK518) | ((with_reducible refine gate_callee (f := 38) rfl ?_); refine goesL_ (some 16) rfl rfl Try.func38 (by kernel_rfl) rfl #[.agg #[.int .i64 a0_0, .slice A0_1 l0_1.length c0_1], .int .i64 a1, .int .i64 a2] rfl zM ?_; (with_reducible refine (impl_stateCode.calls k a0_0 _ _ l0_1 a1 a2 t519 _ ?side1 ?side2 A4.out).mono ?_); (case side1 => repeat (first | exact (Kd.C_below HR0_1.out HB.out) | (with_reducible refine Kd.C_alloc ?_ _) | (with_reducible refine Kd.C_drewN ?_ _) | (with_reducible refine Kd.C_drew ?_))); (case side2 => exact HC0_1.out); rintro e w8 ⟨rfl, hb⟩; refine ⟨_, rfl, ?_⟩; refine zA2 (blk_below (g := gb518) (o := .cells #[.int .i64 a0_0, .slice A0_1 l0_1.length c0_1] 26 (0, 0)) (zB BK518.out) hb) (below_step (zH1 HB.out GE518.out) hb) ?_; clear BK518 HB; intro BK518 HB; (try clear hb); (try clear hb2); (try clear hk); (try clear hi)) | ((with_reducible refine gate_dst (N := 22) rfl ?_); refine Kd.R_lit (Kd.int .i64) _ 2 ?hg (N := 22) ?hd (xs := ([a1, a2] : List Int)) (inner := [.int .i64 a1, .int .i64 a2]) (ok := fun _ => True) (okp := fun _ => True) ?hr ?hp (fun _ hk => hk) trivial (Below.refl _ _) (Nat.le_refl _) (by simp) ?_; (case hd => rfl); (case hg => rfl); (case hr => first | (go_simp; done) | (go_simp; rfl)); (case hp => exact (Reps.one (show Kd.M (Kd.int .i64) _ _ _ a1 [.int .i64 a1] from rfl) (Reps.one (show Kd.M (Kd.int .i64) _ _ _ a2 [.int .i64 a2] from rfl) (Reps.none _ _)))); intro v521 w9 ho10 hb hg_ hnew_; clear hg_ hnew_; (first | rw [← Ny520.out] at ho10 | (simp only [Int.reduceToNat] at ho10; rw [← Ny520.out] at ho10)); refine zA3 (Kd.R_lower ho10 (below_size (zH1 HB.out GE518.out))) (blk_below (g := gb518) (o := .cells #[.int .i64 a0_0, .slice A0_1 l0_1.length c0_1] 26 (0, 0)) (zB BK518.out) hb) (below_step (zH1 HB.out GE518.out) hb) ?_; clear BK518 HB; intro HO522 BK518 HB; clear hb ho10; obtain ⟨Ao11, co11, eo11⟩ := Kd.R_slice HO522.out; subst eo11))
    go_loopg [24] k (fun kq v24 w' => ∃ (x24_1 : Int), v24 = .int .i64 x24_1 ∧ Aside0 (impl_FilledLine.l0 kq y520 (y520.length : Int) x24_1 a0_0 l0_1 = some (r1, r2, r3)) ∧ Aside0 (kq ≤ k) ∧ Aside0 (Kd.R (Kd.int .i64) 2 w' w.heap.size (fun _ => True) (.slice Ao11 y520.length co11) y520) ∧ Aside0 (w'.heap[gb518]? = some (.cells #[.int .i64 a0_0, (.slice A0_1 l0_1.length c0_1)] 26 (0, 0))) ∧ Aside0 (Below w.heap.size w w'))
    case atStart => exact ⟨(0), (zF), H', ⟨Nat.le_refl _⟩, ⟨zR HO522.out⟩, ⟨zB BK518.out⟩, ⟨zH1 HB.out GE518.out⟩⟩
    case round =>
      clear H'
      try clear c1
      try clear p2
      try clear c3
      try clear c5
      try clear c5b0
      try clear c5b1
      try clear hcz7_0
      try clear hcz7_1
      try clear hfz7_0
      try clear hfz7_1
      obtain ⟨x24_1, rfl, HA, HK1, HO_22, BK518, HB⟩ := hrel
      cases gk with
      | zero => exact absurd HA.out (by simp [impl_FilledLine.l0])
      | succ k1 =>
        have H := HA.out
        clear HA
        simp only [impl_FilledLine.l0] at H
        by_cases c12 : x24_1 < (y520.length : Int)
        · rw [if_pos c12] at H
          have c12b0 := decide_eq_true c12
          clear c12
          by_cases c13 : 0 ≤ x24_1
          · rw [if_pos c13] at H
            have c13b0 := decide_eq_true c13
            clear c13
            by_cases c14 : x24_1 < (y520.length : Int)
            · rw [if_pos c14] at H
              have c14b0 := decide_eq_true c14
              clear c14
              obtain ⟨t524, A15, H⟩ := zb H
              by_cases c16 : t524 = 0
              · rw [if_pos c16] at H
                have c16b0 := zq1 c16
                have c16b1 := zq2 c16
                clear c16
                have H' := Aside0.mk H
                clear H
                have p523 : 0 ≤ (x24_1 : Int) := of_decide_eq_true (by first | (with_reducible assumption) | assumption)
                have q523 : x24_1 < (y520.length : Int) := of_decide_eq_true (by first | (with_reducible assumption) | assumption)
                obtain ⟨ad523, e523, hx523_0⟩ := Kd.at_int (Kd.R_reads' HO_22.out).2.2 x24_1 p523 q523
                cases e523
                replace p523 := eq_true p523
                replace q523 := eq_true q523
                obtain ⟨hcz17_0, hcz17_1⟩ := zc2 BK518
                obtain ⟨hfz17_0, hfz17_1⟩ := zf2 BK518
                go_wp2_with (first | ((with_reducible refine gate_callee (f := 34) rfl ?_); refine goesL_ (some 31) rfl rfl Try.func34 (by kernel_rfl) rfl #[.agg #[.int .i64 a0_0, .slice A0_1 l0_1.length c0_1], .int .i64 (rd y520 x24_1)] rfl zM ?_; (with_reducible refine (impl_Board_filled.calls k1 a0_0 _ _ l0_1 (rd y520 x24_1) t524 _ ?side1 ?side2 A15.out).mono ?_); (case side1 => repeat (first | exact (Kd.C_below HR0_1.out HB.out) | (with_reducible refine Kd.C_alloc ?_ _) | (with_reducible refine Kd.C_drewN ?_ _) | (with_reducible refine Kd.C_drew ?_))); (case side2 => exact HC0_1.out); rintro e w18 ⟨rfl, hb⟩; refine ⟨_, rfl, ?_⟩; refine zA3 (Kd.R_below (zR HO_22.out) hb) (blk_below (g := gb518) (o := .cells #[.int .i64 a0_0, .slice A0_1 l0_1.length c0_1] 26 (0, 0)) (zB BK518.out) hb) (below_step (zH1 HB.out GE518.out) hb) ?_; clear HO_22 BK518 HB; intro HO_22 BK518 HB; (try clear hb); (try clear hb2); (try clear hk); (try clear hi)))
                go_roundg k1
                case measure => have := HK1.out; omega
                case rel => exact ⟨(wrap64 (x24_1 + 1)), (zF), H', ⟨by have := HK1.out; omega⟩, ⟨zR HO_22.out⟩, ⟨zB BK518.out⟩, ⟨zH1 HB.out GE518.out⟩⟩
              · rw [if_neg c16] at H
                have c16b0 := zq3 c16
                have c16b1 := zq4 c16
                simp only [Option.some.injEq, Prod.mk.injEq] at H
                obtain ⟨rfl, rfl, rfl⟩ := H
                have p523 : 0 ≤ (x24_1 : Int) := of_decide_eq_true (by first | (with_reducible assumption) | assumption)
                have q523 : x24_1 < (y520.length : Int) := of_decide_eq_true (by first | (with_reducible assumption) | assumption)
                obtain ⟨ad523, e523, hx523_0⟩ := Kd.at_int (Kd.R_reads' HO_22.out).2.2 x24_1 p523 q523
                cases e523
                replace p523 := eq_true p523
                replace q523 := eq_true q523
                obtain ⟨hcz19_0, hcz19_1⟩ := zc2 BK518
                obtain ⟨hfz19_0, hfz19_1⟩ := zf2 BK518
                go_wp2_with (first | ((with_reducible refine gate_callee (f := 34) rfl ?_); refine goesL_ (some 31) rfl rfl Try.func34 (by kernel_rfl) rfl #[.agg #[.int .i64 a0_0, .slice A0_1 l0_1.length c0_1], .int .i64 (rd y520 x24_1)] rfl zM ?_; (with_reducible refine (impl_Board_filled.calls k1 a0_0 _ _ l0_1 (rd y520 x24_1) t524 _ ?side1 ?side2 A15.out).mono ?_); (case side1 => repeat (first | exact (Kd.C_below HR0_1.out HB.out) | (with_reducible refine Kd.C_alloc ?_ _) | (with_reducible refine Kd.C_drewN ?_ _) | (with_reducible refine Kd.C_drew ?_))); (case side2 => exact HC0_1.out); rintro e w20 ⟨rfl, hb⟩; refine ⟨_, rfl, ?_⟩; refine zA3 (Kd.R_below (zR HO_22.out) hb) (blk_below (g := gb518) (o := .cells #[.int .i64 a0_0, .slice A0_1 l0_1.length c0_1] 26 (0, 0)) (zB BK518.out) hb) (below_step (zH1 HB.out GE518.out) hb) ?_; clear HO_22 BK518 HB; intro HO_22 BK518 HB; (try clear hb); (try clear hb2); (try clear hk); (try clear hi)))
                go_ret3
                exact ⟨zE, zH1 HB.out GE518.out⟩
            · rw [if_neg c14] at H
              exact absurd H (by simp)
          · rw [if_neg c13] at H
            exact absurd H (by simp)
        · rw [if_neg c12] at H
          have c12b0 := decide_eq_false c12
          clear c12
          simp only [Option.some.injEq, Prod.mk.injEq] at H
          obtain ⟨rfl, rfl, rfl⟩ := H
          go_wp2
          go_ret3
          exact ⟨zE, zH1 HB.out GE518.out⟩
  · rw [if_neg c5] at H
    have c5b0 := zq3 c5
    have c5b1 := zq4 c5
    simp only [Option.some.injEq, Prod.mk.injEq] at H
    obtain ⟨rfl, rfl, rfl⟩ := H
    go_enter Try.func16, Try.ntmps16
    go_wp2_with (first | ((with_reducible refine gate_dst (N := 3) rfl ?_); refine zX 3 #[.int .i64 a0_0, .slice A0_1 l0_1.length c0_1] 26 ?_; intro gb518 hg w21 hbox hb; refine zA4 (below_step (zH HB.out) hb) (hbox) ((zS hg (below_size (zH HB.out)) : w.heap.size ≤ gb518)) ((zS hg (below_size (zH HB.out)) : w.heap.size ≤ gb518)) ?_; clear HB; intro HB BK518 GW518 GE518; clear hb hbox hg; obtain ⟨hcz22_0, hcz22_1⟩ := zc2 BK518; obtain ⟨hfz22_0, hfz22_1⟩ := zf2 BK518) | ((with_reducible refine gate_callee (f := 38) rfl ?_); refine goesL_ (some 16) rfl rfl Try.func38 (by kernel_rfl) rfl #[.agg #[.int .i64 a0_0, .slice A0_1 l0_1.length c0_1], .int .i64 a1, .int .i64 a2] rfl zM ?_; (with_reducible refine (impl_stateCode.calls k a0_0 _ _ l0_1 a1 a2 t519 _ ?side1 ?side2 A4.out).mono ?_); (case side1 => repeat (first | exact (Kd.C_below HR0_1.out HB.out) | (with_reducible refine Kd.C_alloc ?_ _) | (with_reducible refine Kd.C_drewN ?_ _) | (with_reducible refine Kd.C_drew ?_))); (case side2 => exact HC0_1.out); rintro e w23 ⟨rfl, hb⟩; refine ⟨_, rfl, ?_⟩; refine zA2 (blk_below (g := gb518) (o := .cells #[.int .i64 a0_0, .slice A0_1 l0_1.length c0_1] 26 (0, 0)) (zB BK518.out) hb) (below_step (zH1 HB.out GE518.out) hb) ?_; clear BK518 HB; intro BK518 HB; (try clear hb); (try clear hb2); (try clear hk); (try clear hi)))
    go_ret3
    exact ⟨zE, zH1 HB.out GE518.out⟩

/-! ### spec_DrawFilledLine: function 17 -/
def spec_DrawFilledLine.f (k : Nat) (l0 : List Int) : Option (Int × List Int × Int × Int) := (spec_l07With.f k l0).bind fun bt526 => (some (bt526.1, bt526.2.1, bt526.2.2.1, bt526.2.2.2))
theorem spec_DrawFilledLine.mono : ∀ a0 k, LeO (spec_DrawFilledLine.f k a0) (spec_DrawFilledLine.f (k + 1) a0) := by
  intro a0 k
  unfold spec_DrawFilledLine.f
  repeat' first
      | (with_reducible exact spec_l07With.mono _ _)
      | (with_reducible exact LeO.refl _)
      | (with_reducible exact LeO.none _)
      | (with_reducible refine LeO.ite ?_ ?_)
      | (with_reducible refine LeO.bind ?_ (fun _ => ?_))
      | exact spec_l07With.mono _ _
      | exact LeO.none _
      | refine LeO.ite ?_ ?_
      | refine LeO.bind ?_ (fun _ => ?_)
set_option maxHeartbeats 8000000 in
set_option maxRecDepth 100000 in
theorem spec_DrawFilledLine.calls (k : Nat) (A0 : Option Addr) (c0 : Nat) (l0 : List Int) (r1 : Int) (r2 : List Int) (r3 : Int) (r4 : Int) (w : World) (hr0 : Kd.C (Kd.int .u8) w A0 l0.length l0) (hc0 : l0.length ≤ c0) (h : spec_DrawFilledLine.f k l0 = some (r1, r2, r3, r4)) :
    Calls Try.prog 17 #[.slice A0 l0.length c0] w fun e w' => ∃ v1_ : Value, e = .returned (.tuple #[.agg #[.int .i64 r1, v1_], .int .i64 r3, .int .i64 r4]) ∧ Kd.R (Kd.int .i64) 2 w' w.heap.size (fun _ => True) v1_ r2 ∧ Below w.heap.size w w' := by
  have hu26 := Try.underlying26
  have HR0 := Aside0.mk hr0
  have HC0 := Aside0.mk hc0
  clear hr0 hc0
  have HB := Aside0.mk (Below.refl w.heap.size w)
  have H : ((spec_l07With.f k l0).bind fun bt526 => (some (bt526.1, bt526.2.1, bt526.2.2.1, bt526.2.2.2))) = some (r1, r2, r3, r4) := h
  clear h
  obtain ⟨⟨t526, t527, t530, t531⟩, A2, H⟩ := zb H; (try dsimp only at H)
  simp only [Option.some.injEq, Prod.mk.injEq] at H
  obtain ⟨rfl, rfl, rfl, rfl⟩ := H
  go_enter Try.func17, Try.ntmps17
  go_wp2_with (first | ((with_reducible refine gate_dst (N := 2) rfl ?_); refine zX 2 #[.int .i64 0, .slice none 0 0] 26 ?_; intro gb525 hg w3 hbox hb; refine zA4 (below_step (zH HB.out) hb) (hbox) ((zS hg (below_size (zH HB.out)) : w.heap.size ≤ gb525)) ((zS hg (below_size (zH HB.out)) : w.heap.size ≤ gb525)) ?_; clear HB; intro HB BK525 GW525 GE525; clear hb hbox hg) | ((with_reducible refine gate_callee (f := 19) rfl ?_); refine goesL_ (some 10) rfl rfl Try.func19 (by kernel_rfl) rfl #[.slice A0 l0.length c0] rfl zM ?_; (with_reducible refine (spec_l07With.calls k _ _ l0 t526 t527 t530 t531 _ ?side1 ?side2 A2.out).mono ?_); (case side1 => repeat (first | exact (Kd.C_below HR0.out HB.out) | (with_reducible refine Kd.C_alloc ?_ _) | (with_reducible refine Kd.C_drewN ?_ _) | (with_reducible refine Kd.C_drew ?_))); (case side2 => exact HC0.out); rintro e w4 ⟨v528, rfl, ho0, hb⟩; refine ⟨_, rfl, ?_⟩; refine zA3 (Kd.R_lower ho0 (below_size (zH1 HB.out GE525.out))) (blk_below (g := gb525) (o := .cells #[.int .i64 0, .slice none 0 0] 26 (0, 0)) (zB BK525.out) hb) (below_step (zH1 HB.out GE525.out) hb) ?_; clear BK525 HB; intro HO529 BK525 HB; (try clear hb); (try clear hb2); (try clear hk); (try clear hi); (try clear ho0)) | ((with_reducible refine gate_dst (N := 5) rfl ?_); refine zX 5 #[.int .i64 0, .slice none 0 0] 26 ?_; intro gb532 hg w5 hbox hb; refine zA8 (Kd.R_below (zR HO529.out) hb) (blk_below (g := gb525) (o := .cells #[.int .i64 0, .slice none 0 0] 26 (0, 0)) (zB BK525.out) hb) (below_step (zH1 HB.out GE525.out) hb) (hbox) ((zS hg (below_size (zH1 HB.out GE525.out)) : w.heap.size ≤ gb532)) ((zS hg (below_size (zH1 HB.out GE525.out)) : w.heap.size ≤ gb532)) ((zl hg (blk_lt (g := gb525) (o := .cells #[.int .i64 0, .slice none 0 0] 26 (0, 0)) (zB BK525.out)) : gb525 ≠ gb532)) ((zg hg (blk_lt (g := gb525) (o := .cells #[.int .i64 0, .slice none 0 0] 26 (0, 0)) (zB BK525.out)) : gb532 ≠ gb525)) ?_; clear HO529 BK525 HB; intro HO529 BK525 HB BK532 GW532 GE532 NB525_532 NB532_525; clear hb hbox hg; have hnb6 := NB532_525.out; have hnc6 := NB525_532.out; obtain ⟨hcz7_0, hcz7_1⟩ := zc2 BK532; obtain ⟨hfz7_0, hfz7_1⟩ := zf2 BK532; obtain ⟨Ao8, co8, eo8⟩ := Kd.R_slice HO529.out; subst eo8; obtain ⟨hcz9_0, hcz9_1⟩ := zc2 BK525; obtain ⟨hfz9_0, hfz9_1⟩ := zf2 BK525))
  refine bodyPost_ret (results_ctt rfl _ _ gb525 26 #[.int .i64 t526, .slice Ao8 t527.length co8] (0, 0) _ rfl (by (with_reducible repeat (first | refine blk_drewN ?_ _ | refine blk_drew ?_ | refine blk_alloc ?_ _)); refine blk_put (cs := #[.int .i64 t526, .slice none 0 0]) ?_ 1 _ rfl; (with_reducible repeat (first | refine blk_drewN ?_ _ | refine blk_drew ?_ | refine blk_alloc ?_ _)); refine blk_put (cs := #[.int .i64 0, .slice none 0 0]) ?_ 0 _ rfl; (with_reducible repeat (first | refine blk_drewN ?_ _ | refine blk_drew ?_ | refine blk_alloc ?_ _)); refine blk_far ?_ NB525_532.out _; (with_reducible repeat (first | refine blk_drewN ?_ _ | refine blk_drew ?_ | refine blk_alloc ?_ _)); refine blk_far ?_ NB525_532.out _; (with_reducible repeat (first | refine blk_drewN ?_ _ | refine blk_drew ?_ | refine blk_alloc ?_ _)); exact BK525.out) Try.underlying26 rfl (by kernel_rfl)) rfl ?_
  exact ⟨_, zE, by (with_reducible repeat (first | apply Kd.R_alloc | apply Kd.R_drewN | apply Kd.R_drew)); exact Kd.R_mono (Kd.R_far (p := ⟨gb525, 1, none⟩) (Kd.R_far (p := ⟨gb525, 0, none⟩) (Kd.R_far (p := ⟨gb532, 1, none⟩) (Kd.R_far (p := ⟨gb532, 0, none⟩) (Kd.R_types (Kd.R_types HO529.out BK532.out (by decide)) BK525.out (by decide)) (fun _ hk => hk.1.2) (.int .i64 t526)) (fun _ hk => hk.1.2) (.slice Ao8 t527.length co8)) (fun _ hk => hk.2) (.int .i64 t526)) (fun _ hk => hk.2) (.slice Ao8 t527.length co8)) (fun _ hk => trivial), zH2 HB.out GE525.out GE532.out⟩

end Go.Proofs.Ytbmkhdeeengbmaa.Q
