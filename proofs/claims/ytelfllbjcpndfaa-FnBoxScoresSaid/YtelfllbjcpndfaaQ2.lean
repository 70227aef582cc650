-- Written by a program of this session (wip/tools/px.sh) over the seat's translation; Lean checks it.
import Derived.Test.YtelfllbjcpndfaaQ0
import Derived.Test.YtelfllbjcpndfaaSq
import Derived.Test.YtelfllbjcpndfaaQ1
namespace Go.Proofs.Ytelfllbjcpndfaa.Q
open Go.RowKit Go.Proofs.YtelfllbjcpndfaaW.PrintWords Go.Proofs.YtelfllbjcpndfaaW.PrintLast Go.Proofs.YtelfllbjcpndfaaW.PrintMore
attribute [local go_sem] max2_int min2_int max_two min_two max_three min_three max_four min_four   -- for this text's walks alone
set_option linter.unusedVariables false
set_option linter.unusedSimpArgs false

/-! ### spec_l03Is: function 50 -/
def spec_l03Is.f (a0_0 : Int) (a0_1 : Int) (a0_2 : Int) : Option (Bool) := (spec_l01In.f a0_0 1 3).bind fun t205 => (if t205 = true then ((spec_l01In.f a0_1 1 3).bind fun t206 => (if t206 = true then (if a0_2 ≥ 0 then ((spec_l03Count.f a0_0 a0_1 a0_2).bind fun t207 => (if 0 ≤ (IntKind.u64.wrap (t207)) then (some (decide (a0_2 < (shl .i64 1 (IntKind.u64.wrap (t207)))))) else (none))) else (some false)) else (some false))) else (some false))
def spec_l03Is.T1 : Bool × List (List Nat × List Nat) := (true, [([], []), ([0], [0]), ([1], [1]), ([2, 2], [2]), ([3], [3]), ([4, 3], [3, 4]), ([5, 3, 3], [3, 5]), ([3, 6], [3, 6]), ([7, 6], [7]), ([8], [8]), ([9, 8], [8, 9]), ([10, 8], [8, 10]), ([8, 11], [8, 11]), ([12, 8], [12]), ([13], [13]), ([14, 13], [13, 14]), ([13], [13]), ([16, 13, 13], [13, 16]), ([17, 13], [13, 17]), ([18, 13], [13, 18]), ([15, 19, 13], [13, 15, 19]), ([13, 20], [13, 20]), ([21, 17, 0, 1, 2, 3, 4, 5, 6, 7, 8, 9, 10, 11, 12, 13, 14, 15, 16, 17, 18, 19, 20, 21], [21])])
def spec_l03Is.B1 : List Nat := [0, 1, 3, 7, 15, 31, 63, 127, 255, 511, 1023, 2047, 4095, 8191, 16383, 32767, 16383, 81919, 212991, 475135, 1048575, 2097151, 4194303]
theorem spec_l03Is.tab1 : rtab .any (opsOf Try.f50 1) = spec_l03Is.T1 := by kernel_rfl
theorem spec_l03Is.bits1 : waitsOk spec_l03Is.T1.2 spec_l03Is.B1 = true := by kernel_rfl
set_option maxHeartbeats 8000000 in
set_option maxRecDepth 100000 in
theorem spec_l03Is.calls (a0_0 : Int) (a0_1 : Int) (a0_2 : Int) (r : Bool) (w : World) (h : spec_l03Is.f a0_0 a0_1 a0_2 = some r) :
    Calls Try.prog 50 #[.agg #[.int .i64 a0_0, .int .i64 a0_1, .int .i64 a0_2]] w fun e w' => e = .returned (.bool r) ∧ Below w.heap.size w w' := by
  have hu25 := Try.underlying25
  have HB := Aside0.mk (Below.refl w.heap.size w)
  have H : ((spec_l01In.f a0_0 1 3).bind fun t205 => (if t205 = true then ((spec_l01In.f a0_1 1 3).bind fun t206 => (if t206 = true then (if a0_2 ≥ 0 then ((spec_l03Count.f a0_0 a0_1 a0_2).bind fun t207 => (if 0 ≤ (IntKind.u64.wrap (t207)) then (some (decide (a0_2 < (shl .i64 1 (IntKind.u64.wrap (t207)))))) else (none))) else (some false)) else (some false))) else (some false))) = some r := h
  clear h
  obtain ⟨t205, A2, H⟩ := zb H
  by_cases c3 : t205 = true
  · subst c3
    have H1 : ((spec_l01In.f a0_1 1 3).bind fun t206 => (if t206 = true then (if a0_2 ≥ 0 then ((spec_l03Count.f a0_0 a0_1 a0_2).bind fun t207 => (if 0 ≤ (IntKind.u64.wrap (t207)) then (some (decide (a0_2 < (shl .i64 1 (IntKind.u64.wrap (t207)))))) else (none))) else (some false)) else (some false))) = some r := by rw [if_pos rfl] at H; exact H
    clear H
    have H := H1
    clear H1
    obtain ⟨t206, A4, H⟩ := zb H
    by_cases c5 : t206 = true
    · subst c5
      have H1 : (if a0_2 ≥ 0 then ((spec_l03Count.f a0_0 a0_1 a0_2).bind fun t207 => (if 0 ≤ (IntKind.u64.wrap (t207)) then (some (decide (a0_2 < (shl .i64 1 (IntKind.u64.wrap (t207)))))) else (none))) else (some false)) = some r := by rw [if_pos rfl] at H; exact H
      clear H
      have H := H1
      clear H1
      by_cases c6 : a0_2 ≥ 0
      · rw [if_pos c6] at H
        have c6b0 := decide_eq_true c6
        clear c6
        obtain ⟨t207, A7, H⟩ := zb H
        obtain ⟨ji8, hji8⟩ := zj (IntKind.u64.wrap (t207))
        (first | rw [hji8] at H | simp only [hji8] at H)
        (try rw [hji8] at A2)
        (try rw [hji8] at A4)
        (try rw [hji8] at A7)
        by_cases c9 : 0 ≤ (ji8)
        · rw [if_pos c9] at H
          have c9b0 := eq_true c9
          have c9b1 := decide_eq_true c9
          clear c9
          obtain ⟨ji10, hji10⟩ := zj (shl .i64 1 (ji8))
          (first | rw [hji10] at H | simp only [hji10] at H)
          (try rw [hji10] at A2)
          (try rw [hji10] at A4)
          (try rw [hji10] at A7)
          have hji10_ : (IntKind.i64.wrap (1 * 2 ^ min (ji8).toNat 64)) = ji10 := hji10
          have hji10z : (ji8) ≤ 64 → (IntKind.i64.wrap (1 * 2 ^ (ji8).toNat)) = ji10 := shl_small hji10
          have hji10u : (IntKind.i64.wrap (2 ^ min (ji8).toNat 64)) = ji10 := by have h_ := hji10_; rw [Int.one_mul] at h_; exact h_
          have hji10v : (ji8) ≤ 64 → (IntKind.i64.wrap (2 ^ (ji8).toNat)) = ji10 := fun hle_ => by have h_ := hji10z hle_; rw [Int.one_mul] at h_; exact h_
          have hji10y : (wrap64 (1 * 2 ^ min (ji8).toNat 64)) = ji10 := (i64_w _).symm.trans hji10_
          have hji10x : (ji8) ≤ 64 → (wrap64 (1 * 2 ^ (ji8).toNat)) = ji10 := fun h_ => (i64_w _).symm.trans (hji10z h_)
          obtain rfl := Option.some.inj H
          go_enter Try.func50, Try.ntmps50
          try go_wp2_with (first | ((with_reducible refine gate_dst (N := 1) rfl ?_); refine zX 1 #[.int .i64 a0_0, .int .i64 a0_1, .int .i64 a0_2] 25 ?_; intro gb204 hg w11 hbox hb; refine zA4 (below_step (zH HB.out) hb) (hbox) ((zS hg (below_size (zH HB.out)) : w.heap.size ≤ gb204)) ((zS hg (below_size (zH HB.out)) : w.heap.size ≤ gb204)) ?_; clear HB; intro HB BK204 GW204 GE204; clear hb hbox hg))
          refine zA2 (blk_drew BK204.out) (below_drew1 HB.out) ?_
          clear BK204 HB
          intro BK204 HB
          refine start_ (n := 23) (S := fun w' => w'.cell? ⟨gb204, 0, none⟩ = some (.int .i64 a0_0) ∧ w'.cell? ⟨gb204, 1, none⟩ = some (.int .i64 a0_1) ∧ w'.cell? ⟨gb204, 2, none⟩ = some (.int .i64 a0_2)) (ds := []) #[false, false, false, false, false, false, false, false, false, false, false, false, false, false, false, false, false, false, false, false, false, false, false] (by kernel_rfl) rfl rfl ⟨(blk_cell BK204.out 0).trans rfl, (blk_cell BK204.out 1).trans rfl, (blk_cell BK204.out 2).trans rfl⟩ (fun hHeld => ?_); refine with_tabW spec_l03Is.tab1 spec_l03Is.bits1 (fun HT_ HW_ => ?_)
          generalize w11.drew = w12 at BK204 HB hHeld ⊢
          refine zP HT_ 0 (some 3) rfl rfl ?_
          refine zT HT_ HW_ hHeld 1 (some 4) rfl rfl ?_
          refine one_ (i := 2) (N := some 5) #[true, true, true, false, false, false, false, false, false, false, false, false, false, false, false, false, false, false, false, false, false, false, false] rfl rfl (one_of HT_.out (by kernel_rfl)) (by decide) (fun K hK => ?_)
          refine goes_ Try.func68 (by kernel_rfl) rfl #[.int .i64 a0_0, .int .i64 1, .int .i64 3] (by rfl) rfl rfl zM ?_
          with_reducible refine (spec_l01In.calls a0_0 1 3 true _ A2.out).mono ?_
          rintro e w' ⟨rfl, ⟨nd, rfl⟩⟩
          refine ⟨_, rfl, ?_⟩
          refine hK.out _ _ ⟨(blk_cell BK204.out 0).trans rfl, (blk_cell BK204.out 1).trans rfl, (blk_cell BK204.out 2).trans rfl⟩ (fun hHeld => ?_)
          clear hK K
          refine zW (some 5) ?_
          refine zP HT_ 3 (some 6) rfl rfl ?_
          refine zP HT_ 4 (some 7) rfl rfl ?_
          refine zT HT_ HW_ hHeld 5 (some 8) rfl rfl ?_
          refine one_ (i := 6) (N := some 9) #[true, true, true, true, true, true, true, false, false, false, false, false, false, false, false, false, false, false, false, false, false, false, false] rfl rfl (one_of HT_.out (by kernel_rfl)) (by decide) (fun K hK => ?_)
          refine goes_ Try.func68 (by kernel_rfl) rfl #[.int .i64 a0_1, .int .i64 1, .int .i64 3] (by rfl) rfl rfl zM ?_
          with_reducible refine (spec_l01In.calls a0_1 1 3 true _ A4.out).mono ?_
          rintro e w' ⟨rfl, ⟨nd, rfl⟩⟩
          refine ⟨_, rfl, ?_⟩
          refine hK.out _ _ ⟨(blk_cell BK204.out 0).trans rfl, (blk_cell BK204.out 1).trans rfl, (blk_cell BK204.out 2).trans rfl⟩ (fun hHeld => ?_)
          clear hK K
          refine zW (some 9) ?_
          refine zP HT_ 7 (some 10) rfl rfl ?_
          refine zP HT_ 8 (some 11) rfl rfl ?_
          refine zP HT_ 9 (some 12) rfl rfl ?_
          refine zT HT_ HW_ hHeld 10 (some 13) rfl rfl ?_
          refine zP HT_ 11 (some 14) rfl rfl ?_
          refine zP HT_ 12 (some 15) rfl rfl ?_
          refine zP HT_ 13 (some 16) rfl rfl ?_
          refine zP HT_ 14 (some 17) rfl rfl ?_
          refine zT HT_ HW_ hHeld 15 (some 18) rfl rfl ?_
          refine zT HT_ HW_ hHeld 16 (some 19) rfl rfl ?_
          refine one_ (i := 17) (N := some 20) #[true, true, true, true, true, true, true, true, true, true, true, true, true, true, true, true, true, true, false, false, false, false, false] rfl rfl (one_of HT_.out (by kernel_rfl)) (by decide) (fun K hK => ?_)
          refine goes_ Try.func51 (by kernel_rfl) rfl #[.agg #[.int .i64 a0_0, .int .i64 a0_1, .int .i64 a0_2]] (by rfl) rfl rfl zM ?_
          with_reducible refine (spec_l03Count.calls a0_0 a0_1 a0_2 t207 _ A7.out).mono ?_
          rintro e w13 ⟨rfl, hb⟩
          refine ⟨_, rfl, ?_⟩
          refine zA2 (blk_below (g := gb204) (o := .cells #[.int .i64 a0_0, .int .i64 a0_1, .int .i64 a0_2] 25 (0, 0)) (zB BK204.out) hb) (below_step (zH1 HB.out GE204.out) hb) ?_
          clear BK204 HB
          intro BK204 HB
          (try clear hb)
          (try clear hb2)
          (try clear hk)
          (try clear hi)
          refine hK.out _ _ ⟨(blk_cell BK204.out 0).trans rfl, (blk_cell BK204.out 1).trans rfl, (blk_cell BK204.out 2).trans rfl⟩ (fun hHeld => ?_)
          clear hK K
          refine zW (some 20) ?_
          refine zP HT_ 18 (some 21) rfl rfl ?_
          refine zP HT_ 19 (some 22) rfl rfl ?_
          refine zP HT_ 20 (some 23) rfl rfl ?_
          refine zP HT_ 21 (some 24) rfl rfl ?_
          refine zP HT_ 22 (some 2) rfl rfl ?_
          refine done_ (done_of HT_.out (by kernel_rfl)) ?_
          try go_wp2
          go_ret
          exact ⟨by first | rfl | (simp [errW_none, errW_some] <;> rfl) | (simp only [← hji8, ← hji10]; first | rfl | (simp [errW_none, errW_some] <;> rfl)) | (simp [*, errW_none, errW_some] <;> rfl), zH1 HB.out GE204.out⟩
        · rw [if_neg c9] at H
          exact absurd H (by simp)
      · rw [if_neg c6] at H
        have c6b0 := decide_eq_false c6
        clear c6
        obtain rfl := Option.some.inj H
        go_enter Try.func50, Try.ntmps50
        try go_wp2_with (first | ((with_reducible refine gate_dst (N := 1) rfl ?_); refine zX 1 #[.int .i64 a0_0, .int .i64 a0_1, .int .i64 a0_2] 25 ?_; intro gb204 hg w14 hbox hb; refine zA4 (below_step (zH HB.out) hb) (hbox) ((zS hg (below_size (zH HB.out)) : w.heap.size ≤ gb204)) ((zS hg (below_size (zH HB.out)) : w.heap.size ≤ gb204)) ?_; clear HB; intro HB BK204 GW204 GE204; clear hb hbox hg))
        refine zA2 (blk_drew BK204.out) (below_drew1 HB.out) ?_
        clear BK204 HB
        intro BK204 HB
        refine start_ (n := 23) (S := fun w' => w'.cell? ⟨gb204, 0, none⟩ = some (.int .i64 a0_0) ∧ w'.cell? ⟨gb204, 1, none⟩ = some (.int .i64 a0_1) ∧ w'.cell? ⟨gb204, 2, none⟩ = some (.int .i64 a0_2)) (ds := []) #[false, false, false, false, false, false, false, false, false, false, false, false, false, false, false, false, false, false, false, false, false, false, false] (by kernel_rfl) rfl rfl ⟨(blk_cell BK204.out 0).trans rfl, (blk_cell BK204.out 1).trans rfl, (blk_cell BK204.out 2).trans rfl⟩ (fun hHeld => ?_); refine with_tabW spec_l03Is.tab1 spec_l03Is.bits1 (fun HT_ HW_ => ?_)
        generalize w14.drew = w15 at BK204 HB hHeld ⊢
        refine zP HT_ 0 (some 3) rfl rfl ?_
        refine zT HT_ HW_ hHeld 1 (some 4) rfl rfl ?_
        refine one_ (i := 2) (N := some 5) #[true, true, true, false, false, false, false, false, false, false, false, false, false, false, false, false, false, false, false, false, false, false, false] rfl rfl (one_of HT_.out (by kernel_rfl)) (by decide) (fun K hK => ?_)
        refine goes_ Try.func68 (by kernel_rfl) rfl #[.int .i64 a0_0, .int .i64 1, .int .i64 3] (by rfl) rfl rfl zM ?_
        with_reducible refine (spec_l01In.calls a0_0 1 3 true _ A2.out).mono ?_
        rintro e w' ⟨rfl, ⟨nd, rfl⟩⟩
        refine ⟨_, rfl, ?_⟩
        refine hK.out _ _ ⟨(blk_cell BK204.out 0).trans rfl, (blk_cell BK204.out 1).trans rfl, (blk_cell BK204.out 2).trans rfl⟩ (fun hHeld => ?_)
        clear hK K
        refine zW (some 5) ?_
        refine zP HT_ 3 (some 6) rfl rfl ?_
        refine zP HT_ 4 (some 7) rfl rfl ?_
        refine zT HT_ HW_ hHeld 5 (some 8) rfl rfl ?_
        refine one_ (i := 6) (N := some 9) #[true, true, true, true, true, true, true, false, false, false, false, false, false, false, false, false, false, false, false, false, false, false, false] rfl rfl (one_of HT_.out (by kernel_rfl)) (by decide) (fun K hK => ?_)
        refine goes_ Try.func68 (by kernel_rfl) rfl #[.int .i64 a0_1, .int .i64 1, .int .i64 3] (by rfl) rfl rfl zM ?_
        with_reducible refine (spec_l01In.calls a0_1 1 3 true _ A4.out).mono ?_
        rintro e w' ⟨rfl, ⟨nd, rfl⟩⟩
        refine ⟨_, rfl, ?_⟩
        refine hK.out _ _ ⟨(blk_cell BK204.out 0).trans rfl, (blk_cell BK204.out 1).trans rfl, (blk_cell BK204.out 2).trans rfl⟩ (fun hHeld => ?_)
        clear hK K
        refine zW (some 9) ?_
        refine zP HT_ 7 (some 10) rfl rfl ?_
        refine zP HT_ 8 (some 11) rfl rfl ?_
        refine zP HT_ 9 (some 12) rfl rfl ?_
        refine zT HT_ HW_ hHeld 10 (some 13) rfl rfl ?_
        refine zP HT_ 11 (some 14) rfl rfl ?_
        refine zP HT_ 12 (some 15) rfl rfl ?_
        refine zP HT_ 13 (some 16) rfl rfl ?_
        refine zU HT_ 14 (some 17) rfl rfl ?_
        refine zU HT_ 15 (some 18) rfl rfl ?_
        refine zU HT_ 16 (some 19) rfl rfl ?_
        refine zU HT_ 17 (some 20) rfl rfl ?_
        refine zU HT_ 18 (some 21) rfl rfl ?_
        refine zU HT_ 19 (some 22) rfl rfl ?_
        refine zU HT_ 20 (some 23) rfl rfl ?_
        refine zP HT_ 21 (some 24) rfl rfl ?_
        refine zP HT_ 22 (some 2) rfl rfl ?_
        refine done_ (done_of HT_.out (by kernel_rfl)) ?_
        try go_wp2
        go_ret
        exact ⟨zE, zH1 HB.out GE204.out⟩
    · replace c5 := Bool.eq_false_iff.mpr c5
      subst c5
      have H1 : (some false) = some r := by rw [if_neg (show ¬ (false = true) by decide)] at H; exact H
      clear H
      have H := H1
      clear H1
      obtain rfl := Option.some.inj H
      go_enter Try.func50, Try.ntmps50
      try go_wp2_with (first | ((with_reducible refine gate_dst (N := 1) rfl ?_); refine zX 1 #[.int .i64 a0_0, .int .i64 a0_1, .int .i64 a0_2] 25 ?_; intro gb204 hg w16 hbox hb; refine zA4 (below_step (zH HB.out) hb) (hbox) ((zS hg (below_size (zH HB.out)) : w.heap.size ≤ gb204)) ((zS hg (below_size (zH HB.out)) : w.heap.size ≤ gb204)) ?_; clear HB; intro HB BK204 GW204 GE204; clear hb hbox hg))
      refine zA2 (blk_drew BK204.out) (below_drew1 HB.out) ?_
      clear BK204 HB
      intro BK204 HB
      refine start_ (n := 23) (S := fun w' => w'.cell? ⟨gb204, 0, none⟩ = some (.int .i64 a0_0) ∧ w'.cell? ⟨gb204, 1, none⟩ = some (.int .i64 a0_1) ∧ w'.cell? ⟨gb204, 2, none⟩ = some (.int .i64 a0_2)) (ds := []) #[false, false, false, false, false, false, false, false, false, false, false, false, false, false, false, false, false, false, false, false, false, false, false] (by kernel_rfl) rfl rfl ⟨(blk_cell BK204.out 0).trans rfl, (blk_cell BK204.out 1).trans rfl, (blk_cell BK204.out 2).trans rfl⟩ (fun hHeld => ?_); refine with_tabW spec_l03Is.tab1 spec_l03Is.bits1 (fun HT_ HW_ => ?_)
      generalize w16.drew = w17 at BK204 HB hHeld ⊢
      refine zP HT_ 0 (some 3) rfl rfl ?_
      refine zT HT_ HW_ hHeld 1 (some 4) rfl rfl ?_
      refine one_ (i := 2) (N := some 5) #[true, true, true, false, false, false, false, false, false, false, false, false, false, false, false, false, false, false, false, false, false, false, false] rfl rfl (one_of HT_.out (by kernel_rfl)) (by decide) (fun K hK => ?_)
      refine goes_ Try.func68 (by kernel_rfl) rfl #[.int .i64 a0_0, .int .i64 1, .int .i64 3] (by rfl) rfl rfl zM ?_
      with_reducible refine (spec_l01In.calls a0_0 1 3 true _ A2.out).mono ?_
      rintro e w' ⟨rfl, ⟨nd, rfl⟩⟩
      refine ⟨_, rfl, ?_⟩
      refine hK.out _ _ ⟨(blk_cell BK204.out 0).trans rfl, (blk_cell BK204.out 1).trans rfl, (blk_cell BK204.out 2).trans rfl⟩ (fun hHeld => ?_)
      clear hK K
      refine zW (some 5) ?_
      refine zP HT_ 3 (some 6) rfl rfl ?_
      refine zP HT_ 4 (some 7) rfl rfl ?_
      refine zT HT_ HW_ hHeld 5 (some 8) rfl rfl ?_
      refine one_ (i := 6) (N := some 9) #[true, true, true, true, true, true, true, false, false, false, false, false, false, false, false, false, false, false, false, false, false, false, false] rfl rfl (one_of HT_.out (by kernel_rfl)) (by decide) (fun K hK => ?_)
      refine goes_ Try.func68 (by kernel_rfl) rfl #[.int .i64 a0_1, .int .i64 1, .int .i64 3] (by rfl) rfl rfl zM ?_
      with_reducible refine (spec_l01In.calls a0_1 1 3 false _ A4.out).mono ?_
      rintro e w' ⟨rfl, ⟨nd, rfl⟩⟩
      refine ⟨_, rfl, ?_⟩
      refine hK.out _ _ ⟨(blk_cell BK204.out 0).trans rfl, (blk_cell BK204.out 1).trans rfl, (blk_cell BK204.out 2).trans rfl⟩ (fun hHeld => ?_)
      clear hK K
      refine zW (some 9) ?_
      refine zP HT_ 7 (some 10) rfl rfl ?_
      refine zP HT_ 8 (some 11) rfl rfl ?_
      refine zU HT_ 9 (some 12) rfl rfl ?_
      refine zU HT_ 10 (some 13) rfl rfl ?_
      refine zU HT_ 11 (some 14) rfl rfl ?_
      refine zP HT_ 12 (some 15) rfl rfl ?_
      refine zP HT_ 13 (some 16) rfl rfl ?_
      refine zU HT_ 14 (some 17) rfl rfl ?_
      refine zU HT_ 15 (some 18) rfl rfl ?_
      refine zU HT_ 16 (some 19) rfl rfl ?_
      refine zU HT_ 17 (some 20) rfl rfl ?_
      refine zU HT_ 18 (some 21) rfl rfl ?_
      refine zU HT_ 19 (some 22) rfl rfl ?_
      refine zU HT_ 20 (some 23) rfl rfl ?_
      refine zP HT_ 21 (some 24) rfl rfl ?_
      refine zP HT_ 22 (some 2) rfl rfl ?_
      refine done_ (done_of HT_.out (by kernel_rfl)) ?_
      try go_wp2
      go_ret
      exact ⟨zE, zH1 HB.out GE204.out⟩
  · replace c3 := Bool.eq_false_iff.mpr c3
    subst c3
    have H1 : (some false) = some r := by rw [if_neg (show ¬ (false = true) by decide)] at H; exact H
    clear H
    have H := H1
    clear H1
    obtain rfl := Option.some.inj H
    go_enter Try.func50, Try.ntmps50
    try go_wp2_with (first | ((with_reducible refine gate_dst (N := 1) rfl ?_); refine zX 1 #[.int .i64 a0_0, .int .i64 a0_1, .int .i64 a0_2] 25 ?_; intro gb204 hg w18 hbox hb; refine zA4 (below_step (zH HB.out) hb) (hbox) ((zS hg (below_size (zH HB.out)) : w.heap.size ≤ gb204)) ((zS hg (below_size (zH HB.out)) : w.heap.size ≤ gb204)) ?_; clear HB; intro HB BK204 GW204 GE204; clear hb hbox hg))
    refine zA2 (blk_drew BK204.out) (below_drew1 HB.out) ?_
    clear BK204 HB
    intro BK204 HB
    refine start_ (n := 23) (S := fun w' => w'.cell? ⟨gb204, 0, none⟩ = some (.int .i64 a0_0) ∧ w'.cell? ⟨gb204, 1, none⟩ = some (.int .i64 a0_1) ∧ w'.cell? ⟨gb204, 2, none⟩ = some (.int .i64 a0_2)) (ds := []) #[false, false, false, false, false, false, false, false, false, false, false, false, false, false, false, false, false, false, false, false, false, false, false] (by kernel_rfl) rfl rfl ⟨(blk_cell BK204.out 0).trans rfl, (blk_cell BK204.out 1).trans rfl, (blk_cell BK204.out 2).trans rfl⟩ (fun hHeld => ?_); refine with_tabW spec_l03Is.tab1 spec_l03Is.bits1 (fun HT_ HW_ => ?_)
    generalize w18.drew = w19 at BK204 HB hHeld ⊢
    refine zP HT_ 0 (some 3) rfl rfl ?_
    refine zT HT_ HW_ hHeld 1 (some 4) rfl rfl ?_
    refine one_ (i := 2) (N := some 5) #[true, true, true, false, false, false, false, false, false, false, false, false, false, false, false, false, false, false, false, false, false, false, false] rfl rfl (one_of HT_.out (by kernel_rfl)) (by decide) (fun K hK => ?_)
    refine goes_ Try.func68 (by kernel_rfl) rfl #[.int .i64 a0_0, .int .i64 1, .int .i64 3] (by rfl) rfl rfl zM ?_
    with_reducible refine (spec_l01In.calls a0_0 1 3 false _ A2.out).mono ?_
    rintro e w' ⟨rfl, ⟨nd, rfl⟩⟩
    refine ⟨_, rfl, ?_⟩
    refine hK.out _ _ ⟨(blk_cell BK204.out 0).trans rfl, (blk_cell BK204.out 1).trans rfl, (blk_cell BK204.out 2).trans rfl⟩ (fun hHeld => ?_)
    clear hK K
    refine zW (some 5) ?_
    refine zP HT_ 3 (some 6) rfl rfl ?_
    refine zU HT_ 4 (some 7) rfl rfl ?_
    refine zU HT_ 5 (some 8) rfl rfl ?_
    refine zU HT_ 6 (some 9) rfl rfl ?_
    refine zP HT_ 7 (some 10) rfl rfl ?_
    refine zP HT_ 8 (some 11) rfl rfl ?_
    refine zU HT_ 9 (some 12) rfl rfl ?_
    refine zU HT_ 10 (some 13) rfl rfl ?_
    refine zU HT_ 11 (some 14) rfl rfl ?_
    refine zP HT_ 12 (some 15) rfl rfl ?_
    refine zP HT_ 13 (some 16) rfl rfl ?_
    refine zU HT_ 14 (some 17) rfl rfl ?_
    refine zU HT_ 15 (some 18) rfl rfl ?_
    refine zU HT_ 16 (some 19) rfl rfl ?_
    refine zU HT_ 17 (some 20) rfl rfl ?_
    refine zU HT_ 18 (some 21) rfl rfl ?_
    refine zU HT_ 19 (some 22) rfl rfl ?_
    refine zU HT_ 20 (some 23) rfl rfl ?_
    refine zP HT_ 21 (some 24) rfl rfl ?_
    refine zP HT_ 22 (some 2) rfl rfl ?_
    refine done_ (done_of HT_.out (by kernel_rfl)) ?_
    try go_wp2
    go_ret
    exact ⟨zE, zH1 HB.out GE204.out⟩

/-! ### spec_l03Given: function 23 -/
def spec_l03Given.f (k : Nat) (a0_0 : Int) (a0_1 : Int) (a0_2 : Int) : Option (Int) := (spec_l03Is.f a0_0 a0_1 a0_2).bind fun t209 => (if t209 = true then ((spec_l03Free.f k a0_0 a0_1 a0_2).bind fun t210 => (if (t210.length : Int) > 12 then (some 3) else (some 0))) else (some 1))
theorem spec_l03Given.mono : ∀ a0 a1 a2 k, LeO (spec_l03Given.f k a0 a1 a2) (spec_l03Given.f (k + 1) a0 a1 a2) := by
  intro a0 a1 a2 k
  unfold spec_l03Given.f
  repeat' first
      | (with_reducible exact spec_l03Free.mono _ _ _ _)
      | (with_reducible exact LeO.refl _)
      | (with_reducible exact LeO.none _)
      | (with_reducible refine LeO.ite ?_ ?_)
      | (with_reducible refine LeO.bind ?_ (fun _ => ?_))
      | exact spec_l03Free.mono _ _ _ _
      | exact LeO.none _
      | refine LeO.ite ?_ ?_
      | refine LeO.bind ?_ (fun _ => ?_)
set_option maxHeartbeats 8000000 in
set_option maxRecDepth 100000 in
theorem spec_l03Given.calls (k : Nat) (a0_0 : Int) (a0_1 : Int) (a0_2 : Int) (r : Int) (w : World) (h : spec_l03Given.f k a0_0 a0_1 a0_2 = some r) :
    Calls Try.prog 23 #[.agg #[.int .i64 a0_0, .int .i64 a0_1, .int .i64 a0_2]] w fun e w' => e = .returned (.int .i64 r) ∧ Below w.heap.size w w' := by
  have hu25 := Try.underlying25
  have HB := Aside0.mk (Below.refl w.heap.size w)
  have H : ((spec_l03Is.f a0_0 a0_1 a0_2).bind fun t209 => (if t209 = true then ((spec_l03Free.f k a0_0 a0_1 a0_2).bind fun t210 => (if (t210.length : Int) > 12 then (some 3) else (some 0))) else (some 1))) = some r := h
  clear h
  obtain ⟨t209, A2, H⟩ := zb H
  by_cases c3 : t209 = true
  · subst c3
    have H1 : ((spec_l03Free.f k a0_0 a0_1 a0_2).bind fun t210 => (if (t210.length : Int) > 12 then (some 3) else (some 0))) = some r := by rw [if_pos rfl] at H; exact H
    clear H
    have H := H1
    clear H1
    obtain ⟨t210, A4, H⟩ := zb H
    by_cases c5 : (t210.length : Int) > 12
    · rw [if_pos c5] at H
      have c5b0 := decide_eq_true c5
      have c5b1 : decide (12 < t210.length) = true := decide_eq_true (by omega)
      clear c5
      obtain rfl := Option.some.inj H
      go_enter Try.func23, Try.ntmps23
      go_wp2_with (first | ((with_reducible refine gate_dst (N := 1) rfl ?_); refine zX 1 #[.int .i64 a0_0, .int .i64 a0_1, .int .i64 a0_2] 25 ?_; intro gb208 hg w6 hbox hb; refine zA4 (below_step (zH HB.out) hb) (hbox) ((zS hg (below_size (zH HB.out)) : w.heap.size ≤ gb208)) ((zS hg (below_size (zH HB.out)) : w.heap.size ≤ gb208)) ?_; clear HB; intro HB BK208 GW208 GE208; clear hb hbox hg; obtain ⟨hcz7_0, hcz7_1, hcz7_2⟩ := zc3 BK208; obtain ⟨hfz7_0, hfz7_1, hfz7_2⟩ := zf3 BK208) | ((with_reducible refine gate_callee (f := 50) rfl ?_); refine goesL_ (some 5) rfl rfl Try.func50 (by kernel_rfl) rfl #[.agg #[.int .i64 a0_0, .int .i64 a0_1, .int .i64 a0_2]] rfl zM ?_; (with_reducible refine (spec_l03Is.calls a0_0 a0_1 a0_2 true _ A2.out).mono ?_); rintro e w8 ⟨rfl, hb⟩; refine ⟨_, rfl, ?_⟩; refine zA2 (blk_below (g := gb208) (o := .cells #[.int .i64 a0_0, .int .i64 a0_1, .int .i64 a0_2] 25 (0, 0)) (zB BK208.out) hb) (below_step (zH1 HB.out GE208.out) hb) ?_; clear BK208 HB; intro BK208 HB; (try clear hb); (try clear hb2); (try clear hk); (try clear hi); obtain ⟨hcz9_0, hcz9_1, hcz9_2⟩ := zc3 BK208; obtain ⟨hfz9_0, hfz9_1, hfz9_2⟩ := zf3 BK208) | ((with_reducible refine gate_callee (f := 24) rfl ?_); refine goesL_ (some 9) rfl rfl Try.func24 (by kernel_rfl) rfl #[.agg #[.int .i64 a0_0, .int .i64 a0_1, .int .i64 a0_2]] rfl zM ?_; (with_reducible refine (spec_l03Free.calls k a0_0 a0_1 a0_2 t210 _ A4.out).mono ?_); rintro e w10 ⟨v211, rfl, ho0, hb⟩; refine ⟨_, rfl, ?_⟩; refine zA3 (Kd.R_lower ho0 (below_size (zH1 HB.out GE208.out))) (blk_below (g := gb208) (o := .cells #[.int .i64 a0_0, .int .i64 a0_1, .int .i64 a0_2] 25 (0, 0)) (zB BK208.out) hb) (below_step (zH1 HB.out GE208.out) hb) ?_; clear BK208 HB; intro HO212 BK208 HB; (try clear hb); (try clear hb2); (try clear hk); (try clear hi); (try clear ho0); obtain ⟨Ao11, co11, eo11⟩ := Kd.R_slice HO212.out; subst eo11))
      go_ret
      exact ⟨zE, zH1 HB.out GE208.out⟩
    · rw [if_neg c5] at H
      have c5b0 := decide_eq_false c5
      have c5b1 : decide (12 < t210.length) = false := decide_eq_false (by omega)
      clear c5
      obtain rfl := Option.some.inj H
      go_enter Try.func23, Try.ntmps23
      go_wp2_with (first | ((with_reducible refine gate_dst (N := 1) rfl ?_); refine zX 1 #[.int .i64 a0_0, .int .i64 a0_1, .int .i64 a0_2] 25 ?_; intro gb208 hg w12 hbox hb; refine zA4 (below_step (zH HB.out) hb) (hbox) ((zS hg (below_size (zH HB.out)) : w.heap.size ≤ gb208)) ((zS hg (below_size (zH HB.out)) : w.heap.size ≤ gb208)) ?_; clear HB; intro HB BK208 GW208 GE208; clear hb hbox hg; obtain ⟨hcz13_0, hcz13_1, hcz13_2⟩ := zc3 BK208; obtain ⟨hfz13_0, hfz13_1, hfz13_2⟩ := zf3 BK208) | ((with_reducible refine gate_callee (f := 50) rfl ?_); refine goesL_ (some 5) rfl rfl Try.func50 (by kernel_rfl) rfl #[.agg #[.int .i64 a0_0, .int .i64 a0_1, .int .i64 a0_2]] rfl zM ?_; (with_reducible refine (spec_l03Is.calls a0_0 a0_1 a0_2 true _ A2.out).mono ?_); rintro e w14 ⟨rfl, hb⟩; refine ⟨_, rfl, ?_⟩; refine zA2 (blk_below (g := gb208) (o := .cells #[.int .i64 a0_0, .int .i64 a0_1, .int .i64 a0_2] 25 (0, 0)) (zB BK208.out) hb) (below_step (zH1 HB.out GE208.out) hb) ?_; clear BK208 HB; intro BK208 HB; (try clear hb); (try clear hb2); (try clear hk); (try clear hi); obtain ⟨hcz15_0, hcz15_1, hcz15_2⟩ := zc3 BK208; obtain ⟨hfz15_0, hfz15_1, hfz15_2⟩ := zf3 BK208) | ((with_reducible refine gate_callee (f := 24) rfl ?_); refine goesL_ (some 9) rfl rfl Try.func24 (by kernel_rfl) rfl #[.agg #[.int .i64 a0_0, .int .i64 a0_1, .int .i64 a0_2]] rfl zM ?_; (with_reducible refine (spec_l03Free.calls k a0_0 a0_1 a0_2 t210 _ A4.out).mono ?_); rintro e w16 ⟨v211, rfl, ho0, hb⟩; refine ⟨_, rfl, ?_⟩; refine zA3 (Kd.R_lower ho0 (below_size (zH1 HB.out GE208.out))) (blk_below (g := gb208) (o := .cells #[.int .i64 a0_0, .int .i64 a0_1, .int .i64 a0_2] 25 (0, 0)) (zB BK208.out) hb) (below_step (zH1 HB.out GE208.out) hb) ?_; clear BK208 HB; intro HO212 BK208 HB; (try clear hb); (try clear hb2); (try clear hk); (try clear hi); (try clear ho0); obtain ⟨Ao17, co17, eo17⟩ := Kd.R_slice HO212.out; subst eo17))
      go_ret
      exact ⟨zE, zH1 HB.out GE208.out⟩
  · replace c3 := Bool.eq_false_iff.mpr c3
    subst c3
    have H1 : (some 1) = some r := by rw [if_neg (show ¬ (false = true) by decide)] at H; exact H
    clear H
    have H := H1
    clear H1
    obtain rfl := Option.some.inj H
    go_enter Try.func23, Try.ntmps23
    go_wp2_with (first | ((with_reducible refine gate_dst (N := 1) rfl ?_); refine zX 1 #[.int .i64 a0_0, .int .i64 a0_1, .int .i64 a0_2] 25 ?_; intro gb208 hg w18 hbox hb; refine zA4 (below_step (zH HB.out) hb) (hbox) ((zS hg (below_size (zH HB.out)) : w.heap.size ≤ gb208)) ((zS hg (below_size (zH HB.out)) : w.heap.size ≤ gb208)) ?_; clear HB; intro HB BK208 GW208 GE208; clear hb hbox hg; obtain ⟨hcz19_0, hcz19_1, hcz19_2⟩ := zc3 BK208; obtain ⟨hfz19_0, hfz19_1, hfz19_2⟩ := zf3 BK208) | ((with_reducible refine gate_callee (f := 50) rfl ?_); refine goesL_ (some 5) rfl rfl Try.func50 (by kernel_rfl) rfl #[.agg #[.int .i64 a0_0, .int .i64 a0_1, .int .i64 a0_2]] rfl zM ?_; (with_reducible refine (spec_l03Is.calls a0_0 a0_1 a0_2 false _ A2.out).mono ?_); rintro e w20 ⟨rfl, hb⟩; refine ⟨_, rfl, ?_⟩; refine zA2 (blk_below (g := gb208) (o := .cells #[.int .i64 a0_0, .int .i64 a0_1, .int .i64 a0_2] 25 (0, 0)) (zB BK208.out) hb) (below_step (zH1 HB.out GE208.out) hb) ?_; clear BK208 HB; intro BK208 HB; (try clear hb); (try clear hb2); (try clear hk); (try clear hi)))
    go_ret
    exact ⟨zE, zH1 HB.out GE208.out⟩

/-! ### spec_l03Place: function 52 -/
def spec_l03Place.l0 : Nat → List Int → Int → Int → Int → Int → Int → Option (Int)
  | 0, _, _, _, _, _, _ => none
  | k + 1, x1, x5, x6, x214000, x214001, x214002 => if x6 < (x1.length : Int) then (if 0 ≤ x6 then (if 0 ≤ (IntKind.u64.wrap (rd x1 x6)) then (if 0 ≤ (IntKind.u64.wrap (x6)) then (spec_l03Place.l0 k x1 (Go.bits .or .i64 x5 (shl .i64 (Go.bits .and .i64 (shr .i64 x214002 (IntKind.u64.wrap (rd x1 x6))) 1) (IntKind.u64.wrap (x6)))) (wrap64 (x6 + 1)) x214000 x214001 x214002) else (none)) else (none)) else (none)) else (some x5)
def spec_l03Place.f (k : Nat) (a0_0 : Int) (a0_1 : Int) (a0_2 : Int) (l1 : List Int) : Option (Int) := spec_l03Place.l0 k l1 0 0 a0_0 a0_1 a0_2
theorem spec_l03Place.mono_l : ∀ k, (∀ y0 y1 y2 y3 y4 y5, LeO (spec_l03Place.l0 k y0 y1 y2 y3 y4 y5) (spec_l03Place.l0 (k + 1) y0 y1 y2 y3 y4 y5))
  | 0 => fun _ _ _ _ _ _ r h => by simp [spec_l03Place.l0] at h
  | k + 1 => by
    have ih0 := spec_l03Place.mono_l k
    · intro y0 y1 y2 y3 y4 y5
      unfold spec_l03Place.l0
      repeat' first
      | (with_reducible exact ih0 _ _ _ _ _ _)
      | (with_reducible exact LeO.refl _)
      | (with_reducible exact LeO.none _)
      | (with_reducible refine LeO.ite ?_ ?_)
      | (with_reducible refine LeO.bind ?_ (fun _ => ?_))
      | exact ih0 _ _ _ _ _ _
      | exact LeO.none _
      | refine LeO.ite ?_ ?_
      | refine LeO.bind ?_ (fun _ => ?_)
theorem spec_l03Place.mono : ∀ a0 a1 a2 a3 k, LeO (spec_l03Place.f k a0 a1 a2 a3) (spec_l03Place.f (k + 1) a0 a1 a2 a3) := by
  intro a0 a1 a2 a3 k
  have ih0 := spec_l03Place.mono_l k
  unfold spec_l03Place.f
  repeat' first
      | (with_reducible exact ih0 _ _ _ _ _ _)
      | (with_reducible exact LeO.refl _)
      | (with_reducible exact LeO.none _)
      | (with_reducible refine LeO.ite ?_ ?_)
      | (with_reducible refine LeO.bind ?_ (fun _ => ?_))
      | exact ih0 _ _ _ _ _ _
      | exact LeO.none _
      | refine LeO.ite ?_ ?_
      | refine LeO.bind ?_ (fun _ => ?_)
set_option maxHeartbeats 8000000 in
set_option maxRecDepth 100000 in
theorem spec_l03Place.calls (k : Nat) (a0_0 : Int) (a0_1 : Int) (a0_2 : Int) (A1 : Option Addr) (c1 : Nat) (l1 : List Int) (r : Int) (w : World) (hr1 : Kd.C (Kd.int .i64) w A1 l1.length l1) (hc1 : l1.length ≤ c1) (h : spec_l03Place.f k a0_0 a0_1 a0_2 l1 = some r) :
    Calls Try.prog 52 #[.agg #[.int .i64 a0_0, .int .i64 a0_1, .int .i64 a0_2], .slice A1 l1.length c1] w fun e w' => e = .returned (.int .i64 r) ∧ Below w.heap.size w w' := by
  have hu25 := Try.underlying25
  have HR1 := Aside0.mk hr1
  have HC1 := Aside0.mk hc1
  clear hr1 hc1
  have HB := Aside0.mk (Below.refl w.heap.size w)
  have H : (spec_l03Place.l0 k l1 0 0 a0_0 a0_1 a0_2) = some r := h
  clear h
  have H' := Aside0.mk H
  clear H
  go_enter Try.func52, Try.ntmps52
  go_wp2_with (first | ((with_reducible refine gate_dst (N := 2) rfl ?_); refine zX 2 #[.int .i64 a0_0, .int .i64 a0_1, .int .i64 a0_2] 25 ?_; intro gb213 hg w3 hbox hb; refine zA4 (below_step (zH HB.out) hb) (hbox) ((zS hg (below_size (zH HB.out)) : w.heap.size ≤ gb213)) ((zS hg (below_size (zH HB.out)) : w.heap.size ≤ gb213)) ?_; clear HB; intro HB BK213 GW213 GE213; clear hb hbox hg))
  repeat (go_quiet (first | ((with_reducible refine gate_dst (N := 2) rfl ?_); refine zX 2 #[.int .i64 a0_0, .int .i64 a0_1, .int .i64 a0_2] 25 ?_; intro gb213 hg w3 hbox hb; refine zA4 (below_step (zH HB.out) hb) (hbox) ((zS hg (below_size (zH HB.out)) : w.heap.size ≤ gb213)) ((zS hg (below_size (zH HB.out)) : w.heap.size ≤ gb213)) ?_; clear HB; intro HB BK213 GW213 GE213; clear hb hbox hg)); try go_wp2_with (first | ((with_reducible refine gate_dst (N := 2) rfl ?_); refine zX 2 #[.int .i64 a0_0, .int .i64 a0_1, .int .i64 a0_2] 25 ?_; intro gb213 hg w3 hbox hb; refine zA4 (below_step (zH HB.out) hb) (hbox) ((zS hg (below_size (zH HB.out)) : w.heap.size ≤ gb213)) ((zS hg (below_size (zH HB.out)) : w.heap.size ≤ gb213)) ?_; clear HB; intro HB BK213 GW213 GE213; clear hb hbox hg)))
  go_loopg [5, 6] k (fun kq v5 v6 w' => ∃ (x5_1 : Int) (x6_1 : Int), v5 = .int .i64 x5_1 ∧ v6 = .int .i64 x6_1 ∧ Aside0 (spec_l03Place.l0 kq l1 x5_1 x6_1 a0_0 a0_1 a0_2 = some r) ∧ Aside0 (kq ≤ k) ∧ Aside0 (w'.heap[gb213]? = some (.cells #[.int .i64 a0_0, .int .i64 a0_1, .int .i64 a0_2] 25 (0, 0))) ∧ Aside0 (Below w.heap.size w w'))
  case atStart => exact ⟨(0), (0), (zF), (zF), H', ⟨Nat.le_refl _⟩, ⟨zB BK213.out⟩, ⟨zH1 HB.out GE213.out⟩⟩
  case round =>
    clear H'
    try clear c1
    try clear p2
    obtain ⟨x5_1, x6_1, rfl, rfl, HA, HK1, BK213, HB⟩ := hrel
    cases gk with
    | zero => exact absurd HA.out (by simp [spec_l03Place.l0])
    | succ k1 =>
      have H := HA.out
      clear HA
      simp only [spec_l03Place.l0] at H
      by_cases c4 : x6_1 < (l1.length : Int)
      · rw [if_pos c4] at H
        have c4b0 := decide_eq_true c4
        clear c4
        by_cases c5 : 0 ≤ x6_1
        · rw [if_pos c5] at H
          have c5b0 := decide_eq_true c5
          clear c5
          obtain ⟨ji6, hji6⟩ := zj (IntKind.u64.wrap (rd l1 x6_1))
          (first | rw [hji6] at H | simp only [hji6] at H)
          by_cases c7 : 0 ≤ (ji6)
          · rw [if_pos c7] at H
            have c7b0 := eq_true c7
            have c7b1 := decide_eq_true c7
            clear c7
            obtain ⟨ji8, hji8⟩ := zj (shr .i64 a0_2 (ji6))
            (first | rw [hji8] at H | simp only [hji8] at H)
            have hji8_ : (a0_2 / 2 ^ min (ji6).toNat 64) = ji8 := hji8
            have hji8z : (ji6) ≤ 64 → (a0_2 / 2 ^ (ji6).toNat) = ji8 := shr_small hji8
            obtain ⟨ji9, hji9⟩ := zj (IntKind.u64.wrap (x6_1))
            (first | rw [hji9] at H | simp only [hji9] at H)
            by_cases c10 : 0 ≤ (ji9)
            · rw [if_pos c10] at H
              have c10b0 := eq_true c10
              have c10b1 := decide_eq_true c10
              clear c10
              obtain ⟨ji11, hji11⟩ := zj (shl .i64 (Go.bits .and .i64 (ji8) 1) (ji9))
              (first | rw [hji11] at H | simp only [hji11] at H)
              have hji11_ : (IntKind.i64.wrap ((Go.bits .and .i64 (ji8) 1) * 2 ^ min (ji9).toNat 64)) = ji11 := hji11
              have hji11z : (ji9) ≤ 64 → (IntKind.i64.wrap ((Go.bits .and .i64 (ji8) 1) * 2 ^ (ji9).toNat)) = ji11 := shl_small hji11
              have hji11y : (wrap64 ((Go.bits .and .i64 (ji8) 1) * 2 ^ min (ji9).toNat 64)) = ji11 := (i64_w _).symm.trans hji11_
              have hji11x : (ji9) ≤ 64 → (wrap64 ((Go.bits .and .i64 (ji8) 1) * 2 ^ (ji9).toNat)) = ji11 := fun h_ => (i64_w _).symm.trans (hji11z h_)
              have H' := Aside0.mk H
              clear H
              obtain ⟨hcz12_0, hcz12_1, hcz12_2⟩ := zc3 BK213
              obtain ⟨hfz12_0, hfz12_1, hfz12_2⟩ := zf3 BK213
              have p214 : 0 ≤ (x6_1 : Int) := of_decide_eq_true (by first | (with_reducible assumption) | assumption)
              have q214 : x6_1 < (l1.length : Int) := of_decide_eq_true (by first | (with_reducible assumption) | assumption)
              obtain ⟨ad214, e214, hx214_0⟩ := Kd.at_int HR1.out x6_1 p214 q214
              cases e214
              replace hx214_0 := (HB.out.cell (World.block_lt_of_cell? w _ hx214_0)).trans hx214_0
              replace p214 := eq_true p214
              replace q214 := eq_true q214
              go_wp2
              repeat (go_quiet (fail); try go_wp2)
              go_roundg k1
              case measure => have := HK1.out; omega
              case rel => exact ⟨(Go.bits .or .i64 x5_1 (ji11)), (wrap64 (x6_1 + 1)), (by first | rfl | (simp; done) | (simp only [← hji11] <;> (first | rfl | simp)) | (simp [*]; done)), (zF), H', ⟨by have := HK1.out; omega⟩, ⟨zB BK213.out⟩, ⟨zH1 HB.out GE213.out⟩⟩
            · rw [if_neg c10] at H
              exact absurd H (by simp)
          · rw [if_neg c7] at H
            exact absurd H (by simp)
        · rw [if_neg c5] at H
          exact absurd H (by simp)
      · rw [if_neg c4] at H
        have c4b0 := decide_eq_false c4
        clear c4
        obtain rfl := Option.some.inj H
        go_wp2
        repeat (go_quiet (fail); try go_wp2)
        go_ret
        exact ⟨zE, zH1 HB.out GE213.out⟩

/-! ### spec_l03Around: function 74 -/
def spec_l03Around.f (a0_0 : Int) (a0_1 : Int) (a0_2 : Int) (a1 : Int) : Option (List Int) := if a0_0 = 0 then (none) else (some (([wrap64 ((wrap64 ((wrap64 (Int.tdiv a1 a0_0)) * a0_0)) + (Int.tmod a1 a0_0)), wrap64 ((wrap64 ((wrap64 ((wrap64 (Int.tdiv a1 a0_0)) + 1)) * a0_0)) + (Int.tmod a1 a0_0)), wrap64 ((wrap64 ((wrap64 (a0_0 * (wrap64 (a0_1 + 1)))) + (wrap64 ((wrap64 (Int.tdiv a1 a0_0)) * (wrap64 (a0_0 + 1)))))) + (Int.tmod a1 a0_0)), wrap64 ((wrap64 ((wrap64 ((wrap64 (a0_0 * (wrap64 (a0_1 + 1)))) + (wrap64 ((wrap64 (Int.tdiv a1 a0_0)) * (wrap64 (a0_0 + 1)))))) + (Int.tmod a1 a0_0))) + 1)] : List Int)))
set_option maxHeartbeats 8000000 in
set_option maxRecDepth 100000 in
theorem spec_l03Around.calls (a0_0 : Int) (a0_1 : Int) (a0_2 : Int) (a1 : Int) (r : List Int) (w : World) (h : spec_l03Around.f a0_0 a0_1 a0_2 a1 = some r) :
    Calls Try.prog 74 #[.agg #[.int .i64 a0_0, .int .i64 a0_1, .int .i64 a0_2], .int .i64 a1] w fun e w' => ∃ v0_ : Value, e = .returned (v0_) ∧ Kd.R (Kd.int .i64) 2 w' w.heap.size (fun _ => True) v0_ r ∧ Below w.heap.size w w' := by
  have hu25 := Try.underlying25
  have HB := Aside0.mk (Below.refl w.heap.size w)
  have H : (if a0_0 = 0 then (none) else (some (([wrap64 ((wrap64 ((wrap64 (Int.tdiv a1 a0_0)) * a0_0)) + (Int.tmod a1 a0_0)), wrap64 ((wrap64 ((wrap64 ((wrap64 (Int.tdiv a1 a0_0)) + 1)) * a0_0)) + (Int.tmod a1 a0_0)), wrap64 ((wrap64 ((wrap64 (a0_0 * (wrap64 (a0_1 + 1)))) + (wrap64 ((wrap64 (Int.tdiv a1 a0_0)) * (wrap64 (a0_0 + 1)))))) + (Int.tmod a1 a0_0)), wrap64 ((wrap64 ((wrap64 ((wrap64 (a0_0 * (wrap64 (a0_1 + 1)))) + (wrap64 ((wrap64 (Int.tdiv a1 a0_0)) * (wrap64 (a0_0 + 1)))))) + (Int.tmod a1 a0_0))) + 1)] : List Int)))) = some r := h
  clear h
  by_cases c3 : a0_0 = 0
  · rw [if_pos c3] at H
    exact absurd H (by simp)
  · rw [if_neg c3] at H
    have c3b0 := zq3 c3
    have c3b1 := zq4 c3
    obtain ⟨y216, hy216⟩ : ∃ y_ : List Int, y_ = (([wrap64 ((wrap64 ((wrap64 (Int.tdiv a1 a0_0)) * a0_0)) + (Int.tmod a1 a0_0)), wrap64 ((wrap64 ((wrap64 ((wrap64 (Int.tdiv a1 a0_0)) + 1)) * a0_0)) + (Int.tmod a1 a0_0)), wrap64 ((wrap64 ((wrap64 (a0_0 * (wrap64 (a0_1 + 1)))) + (wrap64 ((wrap64 (Int.tdiv a1 a0_0)) * (wrap64 (a0_0 + 1)))))) + (Int.tmod a1 a0_0)), wrap64 ((wrap64 ((wrap64 ((wrap64 (a0_0 * (wrap64 (a0_1 + 1)))) + (wrap64 ((wrap64 (Int.tdiv a1 a0_0)) * (wrap64 (a0_0 + 1)))))) + (Int.tmod a1 a0_0))) + 1)] : List Int)) := ⟨_, rfl⟩
    replace H : (some y216) = some r := by first | (rw [hy216]; with_reducible exact H) | (have H2_ := (Option.bind_some _ _).symm.trans H; rw [hy216]; with_reducible exact H2_) | (have H2_ := (Option.bind_some _ _).symm.trans H; with_reducible exact H2_) | with_reducible exact H | (rw [hy216]; exact H) | exact H
    have Ny216 := Aside0.mk hy216
    clear hy216
    obtain rfl := Option.some.inj H
    go_enter Try.func74, Try.ntmps74
    go_wp2_with (first | ((with_reducible refine gate_dst (N := 2) rfl ?_); refine zX 2 #[.int .i64 a0_0, .int .i64 a0_1, .int .i64 a0_2] 25 ?_; intro gb215 hg w4 hbox hb; refine zA4 (below_step (zH HB.out) hb) (hbox) ((zS hg (below_size (zH HB.out)) : w.heap.size ≤ gb215)) ((zS hg (below_size (zH HB.out)) : w.heap.size ≤ gb215)) ?_; clear HB; intro HB BK215 GW215 GE215; clear hb hbox hg; obtain ⟨hcz5_0, hcz5_1, hcz5_2⟩ := zc3 BK215; obtain ⟨hfz5_0, hfz5_1, hfz5_2⟩ := zf3 BK215) | ((with_reducible refine gate_dst (N := 46) rfl ?_); refine Kd.R_lit (Kd.int .i64) _ 2 ?hg (N := 46) ?hd (xs := ([wrap64 ((wrap64 ((wrap64 (Int.tdiv a1 a0_0)) * a0_0)) + (Int.tmod a1 a0_0)), wrap64 ((wrap64 ((wrap64 ((wrap64 (Int.tdiv a1 a0_0)) + 1)) * a0_0)) + (Int.tmod a1 a0_0)), wrap64 ((wrap64 ((wrap64 (a0_0 * (wrap64 (a0_1 + 1)))) + (wrap64 ((wrap64 (Int.tdiv a1 a0_0)) * (wrap64 (a0_0 + 1)))))) + (Int.tmod a1 a0_0)), wrap64 ((wrap64 ((wrap64 ((wrap64 (a0_0 * (wrap64 (a0_1 + 1)))) + (wrap64 ((wrap64 (Int.tdiv a1 a0_0)) * (wrap64 (a0_0 + 1)))))) + (Int.tmod a1 a0_0))) + 1)] : List Int)) (inner := [.int .i64 (wrap64 ((wrap64 ((wrap64 (Int.tdiv a1 a0_0)) * a0_0)) + (Int.tmod a1 a0_0))), .int .i64 (wrap64 ((wrap64 ((wrap64 ((wrap64 (Int.tdiv a1 a0_0)) + 1)) * a0_0)) + (Int.tmod a1 a0_0))), .int .i64 (wrap64 ((wrap64 ((wrap64 (a0_0 * (wrap64 (a0_1 + 1)))) + (wrap64 ((wrap64 (Int.tdiv a1 a0_0)) * (wrap64 (a0_0 + 1)))))) + (Int.tmod a1 a0_0))), .int .i64 (wrap64 ((wrap64 ((wrap64 ((wrap64 (a0_0 * (wrap64 (a0_1 + 1)))) + (wrap64 ((wrap64 (Int.tdiv a1 a0_0)) * (wrap64 (a0_0 + 1)))))) + (Int.tmod a1 a0_0))) + 1))]) (ok := fun _ => True) (okp := fun _ => True) ?hr ?hp (fun _ hk => hk) trivial (Below.refl _ _) (Nat.le_refl _) (by simp) ?_; (case hd => rfl); (case hg => rfl); (case hr => first | (go_simp; done) | (go_simp; rfl)); (case hp => exact (Reps.one (show Kd.M (Kd.int .i64) _ _ _ (wrap64 ((wrap64 ((wrap64 (Int.tdiv a1 a0_0)) * a0_0)) + (Int.tmod a1 a0_0))) [.int .i64 (wrap64 ((wrap64 ((wrap64 (Int.tdiv a1 a0_0)) * a0_0)) + (Int.tmod a1 a0_0)))] from rfl) (Reps.one (show Kd.M (Kd.int .i64) _ _ _ (wrap64 ((wrap64 ((wrap64 ((wrap64 (Int.tdiv a1 a0_0)) + 1)) * a0_0)) + (Int.tmod a1 a0_0))) [.int .i64 (wrap64 ((wrap64 ((wrap64 ((wrap64 (Int.tdiv a1 a0_0)) + 1)) * a0_0)) + (Int.tmod a1 a0_0)))] from rfl) (Reps.one (show Kd.M (Kd.int .i64) _ _ _ (wrap64 ((wrap64 ((wrap64 (a0_0 * (wrap64 (a0_1 + 1)))) + (wrap64 ((wrap64 (Int.tdiv a1 a0_0)) * (wrap64 (a0_0 + 1)))))) + (Int.tmod a1 a0_0))) [.int .i64 (wrap64 ((wrap64 ((wrap64 (a0_0 * (wrap64 (a0_1 + 1)))) + (wrap64 ((wrap64 (Int.tdiv a1 a0_0)) * (wrap64 (a0_0 + 1)))))) + (Int.tmod a1 a0_0)))] from rfl) (Reps.one (show Kd.M (Kd.int .i64) _ _ _ (wrap64 ((wrap64 ((wrap64 ((wrap64 (a0_0 * (wrap64 (a0_1 + 1)))) + (wrap64 ((wrap64 (Int.tdiv a1 a0_0)) * (wrap64 (a0_0 + 1)))))) + (Int.tmod a1 a0_0))) + 1)) [.int .i64 (wrap64 ((wrap64 ((wrap64 ((wrap64 (a0_0 * (wrap64 (a0_1 + 1)))) + (wrap64 ((wrap64 (Int.tdiv a1 a0_0)) * (wrap64 (a0_0 + 1)))))) + (Int.tmod a1 a0_0))) + 1))] from rfl) (Reps.none _ _)))))); intro v217 w6 ho7 hb hg_ hnew_; clear hg_ hnew_; (first | rw [← Ny216.out] at ho7 | (simp only [Int.reduceToNat] at ho7; rw [← Ny216.out] at ho7)); refine zA3 (Kd.R_lower ho7 (below_size (zH1 HB.out GE215.out))) (blk_below (g := gb215) (o := .cells #[.int .i64 a0_0, .int .i64 a0_1, .int .i64 a0_2] 25 (0, 0)) (zB BK215.out) hb) (below_step (zH1 HB.out GE215.out) hb) ?_; clear BK215 HB; intro HO218 BK215 HB; clear hb ho7))
    repeat (go_quiet (first | ((with_reducible refine gate_dst (N := 2) rfl ?_); refine zX 2 #[.int .i64 a0_0, .int .i64 a0_1, .int .i64 a0_2] 25 ?_; intro gb215 hg w4 hbox hb; refine zA4 (below_step (zH HB.out) hb) (hbox) ((zS hg (below_size (zH HB.out)) : w.heap.size ≤ gb215)) ((zS hg (below_size (zH HB.out)) : w.heap.size ≤ gb215)) ?_; clear HB; intro HB BK215 GW215 GE215; clear hb hbox hg; obtain ⟨hcz5_0, hcz5_1, hcz5_2⟩ := zc3 BK215; obtain ⟨hfz5_0, hfz5_1, hfz5_2⟩ := zf3 BK215) | ((with_reducible refine gate_dst (N := 46) rfl ?_); refine Kd.R_lit (Kd.int .i64) _ 2 ?hg (N := 46) ?hd (xs := ([wrap64 ((wrap64 ((wrap64 (Int.tdiv a1 a0_0)) * a0_0)) + (Int.tmod a1 a0_0)), wrap64 ((wrap64 ((wrap64 ((wrap64 (Int.tdiv a1 a0_0)) + 1)) * a0_0)) + (Int.tmod a1 a0_0)), wrap64 ((wrap64 ((wrap64 (a0_0 * (wrap64 (a0_1 + 1)))) + (wrap64 ((wrap64 (Int.tdiv a1 a0_0)) * (wrap64 (a0_0 + 1)))))) + (Int.tmod a1 a0_0)), wrap64 ((wrap64 ((wrap64 ((wrap64 (a0_0 * (wrap64 (a0_1 + 1)))) + (wrap64 ((wrap64 (Int.tdiv a1 a0_0)) * (wrap64 (a0_0 + 1)))))) + (Int.tmod a1 a0_0))) + 1)] : List Int)) (inner := [.int .i64 (wrap64 ((wrap64 ((wrap64 (Int.tdiv a1 a0_0)) * a0_0)) + (Int.tmod a1 a0_0))), .int .i64 (wrap64 ((wrap64 ((wrap64 ((wrap64 (Int.tdiv a1 a0_0)) + 1)) * a0_0)) + (Int.tmod a1 a0_0))), .int .i64 (wrap64 ((wrap64 ((wrap64 (a0_0 * (wrap64 (a0_1 + 1)))) + (wrap64 ((wrap64 (Int.tdiv a1 a0_0)) * (wrap64 (a0_0 + 1)))))) + (Int.tmod a1 a0_0))), .int .i64 (wrap64 ((wrap64 ((wrap64 ((wrap64 (a0_0 * (wrap64 (a0_1 + 1)))) + (wrap64 ((wrap64 (Int.tdiv a1 a0_0)) * (wrap64 (a0_0 + 1)))))) + (Int.tmod a1 a0_0))) + 1))]) (ok := fun _ => True) (okp := fun _ => True) ?hr ?hp (fun _ hk => hk) trivial (Below.refl _ _) (Nat.le_refl _) (by simp) ?_; (case hd => rfl); (case hg => rfl); (case hr => first | (go_simp; done) | (go_simp; rfl)); (case hp => exact (Reps.one (show Kd.M (Kd.int .i64) _ _ _ (wrap64 ((wrap64 ((wrap64 (Int.tdiv a1 a0_0)) * a0_0)) + (Int.tmod a1 a0_0))) [.int .i64 (wrap64 ((wrap64 ((wrap64 (Int.tdiv a1 a0_0)) * a0_0)) + (Int.tmod a1 a0_0)))] from rfl) (Reps.one (show Kd.M (Kd.int .i64) _ _ _ (wrap64 ((wrap64 ((wrap64 ((wrap64 (Int.tdiv a1 a0_0)) + 1)) * a0_0)) + (Int.tmod a1 a0_0))) [.int .i64 (wrap64 ((wrap64 ((wrap64 ((wrap64 (Int.tdiv a1 a0_0)) + 1)) * a0_0)) + (Int.tmod a1 a0_0)))] from rfl) (Reps.one (show Kd.M (Kd.int .i64) _ _ _ (wrap64 ((wrap64 ((wrap64 (a0_0 * (wrap64 (a0_1 + 1)))) + (wrap64 ((wrap64 (Int.tdiv a1 a0_0)) * (wrap64 (a0_0 + 1)))))) + (Int.tmod a1 a0_0))) [.int .i64 (wrap64 ((wrap64 ((wrap64 (a0_0 * (wrap64 (a0_1 + 1)))) + (wrap64 ((wrap64 (Int.tdiv a1 a0_0)) * (wrap64 (a0_0 + 1)))))) + (Int.tmod a1 a0_0)))] from rfl) (Reps.one (show Kd.M (Kd.int .i64) _ _ _ (wrap64 ((wrap64 ((wrap64 ((wrap64 (a0_0 * (wrap64 (a0_1 + 1)))) + (wrap64 ((wrap64 (Int.tdiv a1 a0_0)) * (wrap64 (a0_0 + 1)))))) + (Int.tmod a1 a0_0))) + 1)) [.int .i64 (wrap64 ((wrap64 ((wrap64 ((wrap64 (a0_0 * (wrap64 (a0_1 + 1)))) + (wrap64 ((wrap64 (Int.tdiv a1 a0_0)) * (wrap64 (a0_0 + 1)))))) + (Int.tmod a1 a0_0))) + 1))] from rfl) (Reps.none _ _)))))); intro v217 w6 ho7 hb hg_ hnew_; clear hg_ hnew_; (first | rw [← Ny216.out] at ho7 | (simp only [Int.reduceToNat] at ho7; rw [← Ny216.out] at ho7)); refine zA3 (Kd.R_lower ho7 (below_size (zH1 HB.out GE215.out))) (blk_below (g := gb215) (o := .cells #[.int .i64 a0_0, .int .i64 a0_1, .int .i64 a0_2] 25 (0, 0)) (zB BK215.out) hb) (below_step (zH1 HB.out GE215.out) hb) ?_; clear BK215 HB; intro HO218 BK215 HB; clear hb ho7)); try go_wp2_with (first | ((with_reducible refine gate_dst (N := 2) rfl ?_); refine zX 2 #[.int .i64 a0_0, .int .i64 a0_1, .int .i64 a0_2] 25 ?_; intro gb215 hg w4 hbox hb; refine zA4 (below_step (zH HB.out) hb) (hbox) ((zS hg (below_size (zH HB.out)) : w.heap.size ≤ gb215)) ((zS hg (below_size (zH HB.out)) : w.heap.size ≤ gb215)) ?_; clear HB; intro HB BK215 GW215 GE215; clear hb hbox hg; obtain ⟨hcz5_0, hcz5_1, hcz5_2⟩ := zc3 BK215; obtain ⟨hfz5_0, hfz5_1, hfz5_2⟩ := zf3 BK215) | ((with_reducible refine gate_dst (N := 46) rfl ?_); refine Kd.R_lit (Kd.int .i64) _ 2 ?hg (N := 46) ?hd (xs := ([wrap64 ((wrap64 ((wrap64 (Int.tdiv a1 a0_0)) * a0_0)) + (Int.tmod a1 a0_0)), wrap64 ((wrap64 ((wrap64 ((wrap64 (Int.tdiv a1 a0_0)) + 1)) * a0_0)) + (Int.tmod a1 a0_0)), wrap64 ((wrap64 ((wrap64 (a0_0 * (wrap64 (a0_1 + 1)))) + (wrap64 ((wrap64 (Int.tdiv a1 a0_0)) * (wrap64 (a0_0 + 1)))))) + (Int.tmod a1 a0_0)), wrap64 ((wrap64 ((wrap64 ((wrap64 (a0_0 * (wrap64 (a0_1 + 1)))) + (wrap64 ((wrap64 (Int.tdiv a1 a0_0)) * (wrap64 (a0_0 + 1)))))) + (Int.tmod a1 a0_0))) + 1)] : List Int)) (inner := [.int .i64 (wrap64 ((wrap64 ((wrap64 (Int.tdiv a1 a0_0)) * a0_0)) + (Int.tmod a1 a0_0))), .int .i64 (wrap64 ((wrap64 ((wrap64 ((wrap64 (Int.tdiv a1 a0_0)) + 1)) * a0_0)) + (Int.tmod a1 a0_0))), .int .i64 (wrap64 ((wrap64 ((wrap64 (a0_0 * (wrap64 (a0_1 + 1)))) + (wrap64 ((wrap64 (Int.tdiv a1 a0_0)) * (wrap64 (a0_0 + 1)))))) + (Int.tmod a1 a0_0))), .int .i64 (wrap64 ((wrap64 ((wrap64 ((wrap64 (a0_0 * (wrap64 (a0_1 + 1)))) + (wrap64 ((wrap64 (Int.tdiv a1 a0_0)) * (wrap64 (a0_0 + 1)))))) + (Int.tmod a1 a0_0))) + 1))]) (ok := fun _ => True) (okp := fun _ => True) ?hr ?hp (fun _ hk => hk) trivial (Below.refl _ _) (Nat.le_refl _) (by simp) ?_; (case hd => rfl); (case hg => rfl); (case hr => first | (go_simp; done) | (go_simp; rfl)); (case hp => exact (Reps.one (show Kd.M (Kd.int .i64) _ _ _ (wrap64 ((wrap64 ((wrap64 (Int.tdiv a1 a0_0)) * a0_0)) + (Int.tmod a1 a0_0))) [.int .i64 (wrap64 ((wrap64 ((wrap64 (Int.tdiv a1 a0_0)) * a0_0)) + (Int.tmod a1 a0_0)))] from rfl) (Reps.one (show Kd.M (Kd.int .i64) _ _ _ (wrap64 ((wrap64 ((wrap64 ((wrap64 (Int.tdiv a1 a0_0)) + 1)) * a0_0)) + (Int.tmod a1 a0_0))) [.int .i64 (wrap64 ((wrap64 ((wrap64 ((wrap64 (Int.tdiv a1 a0_0)) + 1)) * a0_0)) + (Int.tmod a1 a0_0)))] from rfl) (Reps.one (show Kd.M (Kd.int .i64) _ _ _ (wrap64 ((wrap64 ((wrap64 (a0_0 * (wrap64 (a0_1 + 1)))) + (wrap64 ((wrap64 (Int.tdiv a1 a0_0)) * (wrap64 (a0_0 + 1)))))) + (Int.tmod a1 a0_0))) [.int .i64 (wrap64 ((wrap64 ((wrap64 (a0_0 * (wrap64 (a0_1 + 1)))) + (wrap64 ((wrap64 (Int.tdiv a1 a0_0)) * (wrap64 (a0_0 + 1)))))) + (Int.tmod a1 a0_0)))] from rfl) (Reps.one (show Kd.M (Kd.int .i64) _ _ _ (wrap64 ((wrap64 ((wrap64 ((wrap64 (a0_0 * (wrap64 (a0_1 + 1)))) + (wrap64 ((wrap64 (Int.tdiv a1 a0_0)) * (wrap64 (a0_0 + 1)))))) + (Int.tmod a1 a0_0))) + 1)) [.int .i64 (wrap64 ((wrap64 ((wrap64 ((wrap64 (a0_0 * (wrap64 (a0_1 + 1)))) + (wrap64 ((wrap64 (Int.tdiv a1 a0_0)) * (wrap64 (a0_0 + 1)))))) + (Int.tmod a1 a0_0))) + 1))] from rfl) (Reps.none _ _)))))); intro v217 w6 ho7 hb hg_ hnew_; clear hg_ hnew_; (first | rw [← Ny216.out] at ho7 | (simp only [Int.reduceToNat] at ho7; rw [← Ny216.out] at ho7)); refine zA3 (Kd.R_lower ho7 (below_size (zH1 HB.out GE215.out))) (blk_below (g := gb215) (o := .cells #[.int .i64 a0_0, .int .i64 a0_1, .int .i64 a0_2] 25 (0, 0)) (zB BK215.out) hb) (below_step (zH1 HB.out GE215.out) hb) ?_; clear BK215 HB; intro HO218 BK215 HB; clear hb ho7)))
    go_ret
    exact ⟨_, zE, by (with_reducible repeat (first | apply Kd.R_alloc | apply Kd.R_drewN | apply Kd.R_drew)); exact HO218.out, zH1 HB.out GE215.out⟩

/-! ### spec_l03Drawn: function 72 -/
def spec_l03Drawn.l0 : Nat → List Int → Int → Int → Int → Int → Int → Option (Int)
  | 0, _, _, _, _, _, _ => none
  | k + 1, x5, x6, x7, x220000, x220001, x220002 => if x7 < (x5.length : Int) then (if 0 ≤ x7 then (if 0 ≤ (IntKind.u64.wrap (rd x5 x7)) then (spec_l03Drawn.l0 k x5 (wrap64 (x6 + (Go.bits .and .i64 (shr .i64 x220002 (IntKind.u64.wrap (rd x5 x7))) 1))) (wrap64 (x7 + 1)) x220000 x220001 x220002) else (none)) else (none)) else (some x6)
def spec_l03Drawn.f (k : Nat) (a0_0 : Int) (a0_1 : Int) (a0_2 : Int) (a1 : Int) : Option (Int) := (spec_l03Around.f a0_0 a0_1 a0_2 a1).bind fun t220 => (spec_l03Drawn.l0 k t220 0 0 a0_0 a0_1 a0_2)
theorem spec_l03Drawn.mono_l : ∀ k, (∀ y0 y1 y2 y3 y4 y5, LeO (spec_l03Drawn.l0 k y0 y1 y2 y3 y4 y5) (spec_l03Drawn.l0 (k + 1) y0 y1 y2 y3 y4 y5))
  | 0 => fun _ _ _ _ _ _ r h => by simp [spec_l03Drawn.l0] at h
  | k + 1 => by
    have ih0 := spec_l03Drawn.mono_l k
    · intro y0 y1 y2 y3 y4 y5
      unfold spec_l03Drawn.l0
      repeat' first
      | (with_reducible exact ih0 _ _ _ _ _ _)
      | (with_reducible exact LeO.refl _)
      | (with_reducible exact LeO.none _)
      | (with_reducible refine LeO.ite ?_ ?_)
      | (with_reducible refine LeO.bind ?_ (fun _ => ?_))
      | exact ih0 _ _ _ _ _ _
      | exact LeO.none _
      | refine LeO.ite ?_ ?_
      | refine LeO.bind ?_ (fun _ => ?_)
theorem spec_l03Drawn.mono : ∀ a0 a1 a2 a3 k, LeO (spec_l03Drawn.f k a0 a1 a2 a3) (spec_l03Drawn.f (k + 1) a0 a1 a2 a3) := by
  intro a0 a1 a2 a3 k
  have ih0 := spec_l03Drawn.mono_l k
  unfold spec_l03Drawn.f
  repeat' first
      | (with_reducible exact ih0 _ _ _ _ _ _)
      | (with_reducible exact LeO.refl _)
      | (with_reducible exact LeO.none _)
      | (with_reducible refine LeO.ite ?_ ?_)
      | (with_reducible refine LeO.bind ?_ (fun _ => ?_))
      | exact ih0 _ _ _ _ _ _
      | exact LeO.none _
      | refine LeO.ite ?_ ?_
      | refine LeO.bind ?_ (fun _ => ?_)
set_option maxHeartbeats 8000000 in
set_option maxRecDepth 100000 in
theorem spec_l03Drawn.calls (k : Nat) (a0_0 : Int) (a0_1 : Int) (a0_2 : Int) (a1 : Int) (r : Int) (w : World) (h : spec_l03Drawn.f k a0_0 a0_1 a0_2 a1 = some r) :
    Calls Try.prog 72 #[.agg #[.int .i64 a0_0, .int .i64 a0_1, .int .i64 a0_2], .int .i64 a1] w fun e w' => e = .returned (.int .i64 r) ∧ Below w.heap.size w w' := by
  have hu25 := Try.underlying25
  have HB := Aside0.mk (Below.refl w.heap.size w)
  have H : ((spec_l03Around.f a0_0 a0_1 a0_2 a1).bind fun t220 => (spec_l03Drawn.l0 k t220 0 0 a0_0 a0_1 a0_2)) = some r := h
  clear h
  obtain ⟨t220, A3, H⟩ := zb H
  have H' := Aside0.mk H
  clear H
  go_enter Try.func72, Try.ntmps72
  go_wp2_with (first | ((with_reducible refine gate_dst (N := 2) rfl ?_); refine zX 2 #[.int .i64 a0_0, .int .i64 a0_1, .int .i64 a0_2] 25 ?_; intro gb219 hg w4 hbox hb; refine zA4 (below_step (zH HB.out) hb) (hbox) ((zS hg (below_size (zH HB.out)) : w.heap.size ≤ gb219)) ((zS hg (below_size (zH HB.out)) : w.heap.size ≤ gb219)) ?_; clear HB; intro HB BK219 GW219 GE219; clear hb hbox hg; obtain ⟨hcz5_0, hcz5_1, hcz5_2⟩ := zc3 BK219; obtain ⟨hfz5_0, hfz5_1, hfz5_2⟩ := zf3 BK219) | (go_at_call 74; (with_reducible refine (spec_l03Around.calls a0_0 a0_1 a0_2 a1 t220 _ A3.out).mono ?_); rintro e w6 ⟨v221, rfl, ho0, hb⟩; refine zA3 (Kd.R_lower ho0 (below_size (zH1 HB.out GE219.out))) (blk_below (g := gb219) (o := .cells #[.int .i64 a0_0, .int .i64 a0_1, .int .i64 a0_2] 25 (0, 0)) (zB BK219.out) hb) (below_step (zH1 HB.out GE219.out) hb) ?_; clear BK219 HB; intro HO222 BK219 HB; (try clear hb); (try clear hb2); (try clear hk); (try clear hi); (try clear ho0)))
  repeat (go_quiet (first | ((with_reducible refine gate_dst (N := 2) rfl ?_); refine zX 2 #[.int .i64 a0_0, .int .i64 a0_1, .int .i64 a0_2] 25 ?_; intro gb219 hg w4 hbox hb; refine zA4 (below_step (zH HB.out) hb) (hbox) ((zS hg (below_size (zH HB.out)) : w.heap.size ≤ gb219)) ((zS hg (below_size (zH HB.out)) : w.heap.size ≤ gb219)) ?_; clear HB; intro HB BK219 GW219 GE219; clear hb hbox hg; obtain ⟨hcz5_0, hcz5_1, hcz5_2⟩ := zc3 BK219; obtain ⟨hfz5_0, hfz5_1, hfz5_2⟩ := zf3 BK219) | (go_at_call 74; (with_reducible refine (spec_l03Around.calls a0_0 a0_1 a0_2 a1 t220 _ A3.out).mono ?_); rintro e w6 ⟨v221, rfl, ho0, hb⟩; refine zA3 (Kd.R_lower ho0 (below_size (zH1 HB.out GE219.out))) (blk_below (g := gb219) (o := .cells #[.int .i64 a0_0, .int .i64 a0_1, .int .i64 a0_2] 25 (0, 0)) (zB BK219.out) hb) (below_step (zH1 HB.out GE219.out) hb) ?_; clear BK219 HB; intro HO222 BK219 HB; (try clear hb); (try clear hb2); (try clear hk); (try clear hi); (try clear ho0))); try go_wp2_with (first | ((with_reducible refine gate_dst (N := 2) rfl ?_); refine zX 2 #[.int .i64 a0_0, .int .i64 a0_1, .int .i64 a0_2] 25 ?_; intro gb219 hg w4 hbox hb; refine zA4 (below_step (zH HB.out) hb) (hbox) ((zS hg (below_size (zH HB.out)) : w.heap.size ≤ gb219)) ((zS hg (below_size (zH HB.out)) : w.heap.size ≤ gb219)) ?_; clear HB; intro HB BK219 GW219 GE219; clear hb hbox hg; obtain ⟨hcz5_0, hcz5_1, hcz5_2⟩ := zc3 BK219; obtain ⟨hfz5_0, hfz5_1, hfz5_2⟩ := zf3 BK219) | (go_at_call 74; (with_reducible refine (spec_l03Around.calls a0_0 a0_1 a0_2 a1 t220 _ A3.out).mono ?_); rintro e w6 ⟨v221, rfl, ho0, hb⟩; refine zA3 (Kd.R_lower ho0 (below_size (zH1 HB.out GE219.out))) (blk_below (g := gb219) (o := .cells #[.int .i64 a0_0, .int .i64 a0_1, .int .i64 a0_2] 25 (0, 0)) (zB BK219.out) hb) (below_step (zH1 HB.out GE219.out) hb) ?_; clear BK219 HB; intro HO222 BK219 HB; (try clear hb); (try clear hb2); (try clear hk); (try clear hi); (try clear ho0))))
  go_loopg [6, 7] k (fun kq v6 v7 w' => ∃ (x6_1 : Int) (x7_1 : Int), v6 = .int .i64 x6_1 ∧ v7 = .int .i64 x7_1 ∧ Aside0 (spec_l03Drawn.l0 kq t220 x6_1 x7_1 a0_0 a0_1 a0_2 = some r) ∧ Aside0 (kq ≤ k) ∧ Aside0 (Kd.R (Kd.int .i64) 2 w' w.heap.size (fun _ => True) v221 t220) ∧ Aside0 (w'.heap[gb219]? = some (.cells #[.int .i64 a0_0, .int .i64 a0_1, .int .i64 a0_2] 25 (0, 0))) ∧ Aside0 (Below w.heap.size w w'))
  case atStart => exact ⟨(0), (0), (zF), (zF), H', ⟨Nat.le_refl _⟩, ⟨zR HO222.out⟩, ⟨zB BK219.out⟩, ⟨zH1 HB.out GE219.out⟩⟩
  case round =>
    clear H'
    try clear p2
    try clear hcz5_0
    try clear hcz5_1
    try clear hcz5_2
    try clear hfz5_0
    try clear hfz5_1
    try clear hfz5_2
    obtain ⟨x6_1, x7_1, rfl, rfl, HA, HK1, HO_5, BK219, HB⟩ := hrel
    cases gk with
    | zero => exact absurd HA.out (by simp [spec_l03Drawn.l0])
    | succ k1 =>
      have H := HA.out
      clear HA
      simp only [spec_l03Drawn.l0] at H
      by_cases c7 : x7_1 < (t220.length : Int)
      · rw [if_pos c7] at H
        have c7b0 := decide_eq_true c7
        clear c7
        by_cases c8 : 0 ≤ x7_1
        · rw [if_pos c8] at H
          have c8b0 := decide_eq_true c8
          clear c8
          obtain ⟨ji9, hji9⟩ := zj (IntKind.u64.wrap (rd t220 x7_1))
          (first | rw [hji9] at H | simp only [hji9] at H)
          by_cases c10 : 0 ≤ (ji9)
          · rw [if_pos c10] at H
            have c10b0 := eq_true c10
            have c10b1 := decide_eq_true c10
            clear c10
            obtain ⟨ji11, hji11⟩ := zj (shr .i64 a0_2 (ji9))
            (first | rw [hji11] at H | simp only [hji11] at H)
            have hji11_ : (a0_2 / 2 ^ min (ji9).toNat 64) = ji11 := hji11
            have hji11z : (ji9) ≤ 64 → (a0_2 / 2 ^ (ji9).toNat) = ji11 := shr_small hji11
            have H' := Aside0.mk H
            clear H
            obtain ⟨Ao12, co12, eo12⟩ := Kd.R_slice HO_5.out
            subst eo12
            obtain ⟨hcz13_0, hcz13_1, hcz13_2⟩ := zc3 BK219
            obtain ⟨hfz13_0, hfz13_1, hfz13_2⟩ := zf3 BK219
            have p223 : 0 ≤ (x7_1 : Int) := of_decide_eq_true (by first | (with_reducible assumption) | assumption)
            have q223 : x7_1 < (t220.length : Int) := of_decide_eq_true (by first | (with_reducible assumption) | assumption)
            obtain ⟨ad223, e223, hx223_0⟩ := Kd.at_int (Kd.R_reads' HO_5.out).2.2 x7_1 p223 q223
            cases e223
            replace p223 := eq_true p223
            replace q223 := eq_true q223
            go_wp2
            repeat (go_quiet (fail); try go_wp2)
            go_roundg k1
            case measure => have := HK1.out; omega
            case rel => exact ⟨(wrap64 (x6_1 + (Go.bits .and .i64 (ji11) 1))), (wrap64 (x7_1 + 1)), (by first | rfl | (simp; done) | (simp only [← hji11] <;> (first | rfl | simp)) | (simp [*]; done)), (zF), H', ⟨by have := HK1.out; omega⟩, ⟨zR HO_5.out⟩, ⟨zB BK219.out⟩, ⟨zH1 HB.out GE219.out⟩⟩
          · rw [if_neg c10] at H
            exact absurd H (by simp)
        · rw [if_neg c8] at H
          exact absurd H (by simp)
      · rw [if_neg c7] at H
        have c7b0 := decide_eq_false c7
        clear c7
        obtain rfl := Option.some.inj H
        obtain ⟨Ao14, co14, eo14⟩ := Kd.R_slice HO_5.out
        subst eo14
        go_wp2
        repeat (go_quiet (fail); try go_wp2)
        go_ret
        exact ⟨zE, zH1 HB.out GE219.out⟩

/-! ### spec_l03With: function 58 -/
def spec_l03With.l0 : Nat → Int → List Int → Int → Int → Int → Int → Option (List Int)
  | 0, _, _, _, _, _, _ => none
  | k + 1, x1, x5, x6, x225000, x225001, x225002 => if x6 < (wrap64 (x225000 * x225001)) then ((spec_l03Drawn.f k x225000 x225001 x225002 x6).bind fun t228 => (if t228 = x1 then (if x5.length < 17592186044416 then (spec_l03With.l0 k x1 (x5 ++ [x6]) (wrap64 (x6 + 1)) x225000 x225001 x225002) else (none)) else (spec_l03With.l0 k x1 x5 (wrap64 (x6 + 1)) x225000 x225001 x225002))) else (some x5)
def spec_l03With.f (k : Nat) (a0_0 : Int) (a0_1 : Int) (a0_2 : Int) (a1 : Int) : Option (List Int) := spec_l03With.l0 k a1 (([] : List Int)) 0 a0_0 a0_1 a0_2
theorem spec_l03With.mono_l : ∀ k, (∀ y0 y1 y2 y3 y4 y5, LeO (spec_l03With.l0 k y0 y1 y2 y3 y4 y5) (spec_l03With.l0 (k + 1) y0 y1 y2 y3 y4 y5))
  | 0 => fun _ _ _ _ _ _ r h => by simp [spec_l03With.l0] at h
  | k + 1 => by
    have ih0 := spec_l03With.mono_l k
    · intro y0 y1 y2 y3 y4 y5
      unfold spec_l03With.l0
      repeat' first
      | (with_reducible exact ih0 _ _ _ _ _ _)
      | (with_reducible exact spec_l03Drawn.mono _ _ _ _ _)
      | (with_reducible exact LeO.refl _)
      | (with_reducible exact LeO.none _)
      | (with_reducible refine LeO.ite ?_ ?_)
      | (with_reducible refine LeO.bind ?_ (fun _ => ?_))
      | exact ih0 _ _ _ _ _ _
      | exact spec_l03Drawn.mono _ _ _ _ _
      | exact LeO.none _
      | refine LeO.ite ?_ ?_
      | refine LeO.bind ?_ (fun _ => ?_)
theorem spec_l03With.mono : ∀ a0 a1 a2 a3 k, LeO (spec_l03With.f k a0 a1 a2 a3) (spec_l03With.f (k + 1) a0 a1 a2 a3) := by
  intro a0 a1 a2 a3 k
  have ih0 := spec_l03With.mono_l k
  unfold spec_l03With.f
  repeat' first
      | (with_reducible exact ih0 _ _ _ _ _ _)
      | (with_reducible exact spec_l03Drawn.mono _ _ _ _ _)
      | (with_reducible exact LeO.refl _)
      | (with_reducible exact LeO.none _)
      | (with_reducible refine LeO.ite ?_ ?_)
      | (with_reducible refine LeO.bind ?_ (fun _ => ?_))
      | exact ih0 _ _ _ _ _ _
      | exact spec_l03Drawn.mono _ _ _ _ _
      | exact LeO.none _
      | refine LeO.ite ?_ ?_
      | refine LeO.bind ?_ (fun _ => ?_)
set_option maxHeartbeats 8000000 in
set_option maxRecDepth 100000 in
theorem spec_l03With.calls (k : Nat) (a0_0 : Int) (a0_1 : Int) (a0_2 : Int) (a1 : Int) (r : List Int) (w : World) (h : spec_l03With.f k a0_0 a0_1 a0_2 a1 = some r) :
    Calls Try.prog 58 #[.agg #[.int .i64 a0_0, .int .i64 a0_1, .int .i64 a0_2], .int .i64 a1] w fun e w' => ∃ v0_ : Value, e = .returned (v0_) ∧ Kd.R (Kd.int .i64) 2 w' w.heap.size (fun _ => True) v0_ r ∧ Below w.heap.size w w' := by
  have hu25 := Try.underlying25
  have HB := Aside0.mk (Below.refl w.heap.size w)
  have H : (spec_l03With.l0 k a1 (([] : List Int)) 0 a0_0 a0_1 a0_2) = some r := h
  clear h
  obtain ⟨y225, hy225⟩ : ∃ y_ : List Int, y_ = (([] : List Int)) := ⟨_, rfl⟩
  replace H : (spec_l03With.l0 k a1 y225 0 a0_0 a0_1 a0_2) = some r := by first | (rw [hy225]; with_reducible exact H) | (have H2_ := (Option.bind_some _ _).symm.trans H; rw [hy225]; with_reducible exact H2_) | (have H2_ := (Option.bind_some _ _).symm.trans H; with_reducible exact H2_) | with_reducible exact H | (rw [hy225]; exact H) | exact H
  have Ny225 := Aside0.mk hy225
  clear hy225
  have H' := Aside0.mk H
  clear H
  go_enter Try.func58, Try.ntmps58
  go_wp2_with (first | ((with_reducible refine gate_dst (N := 2) rfl ?_); refine zX 2 #[.int .i64 a0_0, .int .i64 a0_1, .int .i64 a0_2] 25 ?_; intro gb224 hg w3 hbox hb; refine zA4 (below_step (zH HB.out) hb) (hbox) ((zS hg (below_size (zH HB.out)) : w.heap.size ≤ gb224)) ((zS hg (below_size (zH HB.out)) : w.heap.size ≤ gb224)) ?_; clear HB; intro HB BK224 GW224 GE224; clear hb hbox hg) | ((with_reducible refine gate_dst (N := 7) rfl ?_); refine Kd.R_lit (Kd.int .i64) _ 2 ?hg (N := 7) ?hd (xs := ([] : List Int)) (inner := []) (ok := fun _ => True) (okp := fun _ => True) ?hr ?hp (fun _ hk => hk) trivial (Below.refl _ _) (Nat.le_refl _) (by simp) ?_; (case hd => rfl); (case hg => rfl); (case hr => first | (go_simp; done) | (go_simp; rfl)); (case hp => exact (Reps.none _ _)); intro v226 w4 ho5 hb hg_ hnew_; clear hg_ hnew_; (first | rw [← Ny225.out] at ho5 | (simp only [Int.reduceToNat] at ho5; rw [← Ny225.out] at ho5)); refine zA3 (Kd.R_lower ho5 (below_size (zH1 HB.out GE224.out))) (blk_below (g := gb224) (o := .cells #[.int .i64 a0_0, .int .i64 a0_1, .int .i64 a0_2] 25 (0, 0)) (zB BK224.out) hb) (below_step (zH1 HB.out GE224.out) hb) ?_; clear BK224 HB; intro HO227 BK224 HB; clear hb ho5))
  go_loopg [5, 6] k (fun kq v5 v6 w' => ∃ (x5_1 : List Int) (x6_1 : Int), v6 = .int .i64 x6_1 ∧ Aside0 (spec_l03With.l0 kq a1 x5_1 x6_1 a0_0 a0_1 a0_2 = some r) ∧ Aside0 (kq ≤ k) ∧ Aside0 (Kd.R (Kd.int .i64) 2 w' w.heap.size (fun _ => True) v5 x5_1) ∧ Aside0 (w'.heap[gb224]? = some (.cells #[.int .i64 a0_0, .int .i64 a0_1, .int .i64 a0_2] 25 (0, 0))) ∧ Aside0 (Below w.heap.size w w'))
  case atStart => exact ⟨(y225), (0), (zF), H', ⟨Nat.le_refl _⟩, ⟨zR HO227.out⟩, ⟨zB BK224.out⟩, ⟨zH1 HB.out GE224.out⟩⟩
  case round =>
    clear H'
    try clear p2
    try clear c5
    obtain ⟨x5_1, x6_1, rfl, HA, HK1, HO_5, BK224, HB⟩ := hrel
    cases gk with
    | zero => exact absurd HA.out (by simp [spec_l03With.l0])
    | succ k1 =>
      have H := HA.out
      clear HA
      simp only [spec_l03With.l0] at H
      by_cases c6 : x6_1 < (wrap64 (a0_0 * a0_1))
      · rw [if_pos c6] at H
        have c6b0 := decide_eq_true c6
        clear c6
        obtain ⟨t228, A7, H⟩ := zb H
        by_cases c8 : t228 = a1
        · rw [if_pos c8] at H
          have c8b0 := zq1 c8
          have c8b1 := zq2 c8
          clear c8
          by_cases c9 : x5_1.length < 17592186044416
          · rw [if_pos c9] at H
            have LMc9 := Aside0.mk c9
            clear c9
            obtain ⟨y229, hy229⟩ : ∃ y_ : List Int, y_ = (x5_1 ++ [x6_1]) := ⟨_, rfl⟩
            replace H : (spec_l03With.l0 k1 a1 y229 (wrap64 (x6_1 + 1)) a0_0 a0_1 a0_2) = some r := by first | (rw [hy229]; with_reducible exact H) | (have H2_ := (Option.bind_some _ _).symm.trans H; rw [hy229]; with_reducible exact H2_) | (have H2_ := (Option.bind_some _ _).symm.trans H; with_reducible exact H2_) | with_reducible exact H | (rw [hy229]; exact H) | exact H
            have Ny229 := Aside0.mk hy229
            clear hy229
            have H' := Aside0.mk H
            clear H
            obtain ⟨hcz10_0, hcz10_1, hcz10_2⟩ := zc3 BK224
            obtain ⟨hfz10_0, hfz10_1, hfz10_2⟩ := zf3 BK224
            go_wp2_with (first | ((with_reducible refine gate_callee (f := 72) rfl ?_); refine goesL_ (some 19) rfl rfl Try.func72 (by kernel_rfl) rfl #[.agg #[.int .i64 a0_0, .int .i64 a0_1, .int .i64 a0_2], .int .i64 x6_1] rfl zM ?_; (with_reducible refine (spec_l03Drawn.calls k1 a0_0 a0_1 a0_2 x6_1 t228 _ A7.out).mono ?_); rintro e w11 ⟨rfl, hb⟩; refine ⟨_, rfl, ?_⟩; refine zA3 (Kd.R_below (zR HO_5.out) hb) (blk_below (g := gb224) (o := .cells #[.int .i64 a0_0, .int .i64 a0_1, .int .i64 a0_2] 25 (0, 0)) (zB BK224.out) hb) (below_step (zH1 HB.out GE224.out) hb) ?_; clear HO_5 BK224 HB; intro HO_5 BK224 HB; (try clear hb); (try clear hb2); (try clear hk); (try clear hi)) | ((with_reducible refine gate_builtin (b := .append) (xs := #[.tmp 22, .tmp 24]) rfl ?_); at_builtin; refine Kd.R_append (Kd.int .i64) (w0 := w) w.heap.size rfl (.tmp 22) (.tmp 24) 29 2 (.int .i64 0) 8 rfl Try.underlying29 info2 rfl (by decide) (by omega) u5 x5_1 x6_1 [.int .i64 x6_1] (fun _ => True) (fun _ => False) rfl rfl ?aP (fun _ hk => hk.elim) ?aF ?aO ?aB ?aS ?aL ?_; (case aP => exact rfl); (case aB => exact (zH1 HB.out GE224.out)); (case aF => exact (fun _ _ => trivial)); (case aO => exact (zR HO_5.out)); (case aS => exact (below_size (zH1 HB.out GE224.out))); (case aL => have := LMc9.out; omega); intro v230 w12 ho hb hg hat; rw [← Ny229.out] at ho; refine zA3 (blk_grown (g := gb224) (o := .cells #[.int .i64 a0_0, .int .i64 a0_1, .int .i64 a0_2] 25 (0, 0)) (zB BK224.out) hg (Kd.R_ne HO_5.out BK224.out (by decide))) (hb) (ho) ?_; clear BK224 HB HO_5; intro BK224 HB HO231; clear ho hb hg hat))
            go_roundg k1
            case measure => have := HK1.out; omega
            case rel => exact ⟨(y229), (wrap64 (x6_1 + 1)), (zF), H', ⟨by have := HK1.out; omega⟩, ⟨zR HO231.out⟩, ⟨zB BK224.out⟩, ⟨zH1 HB.out GE224.out⟩⟩
          · rw [if_neg c9] at H
            exact absurd H (by simp)
        · rw [if_neg c8] at H
          have c8b0 := zq3 c8
          have c8b1 := zq4 c8
          have H' := Aside0.mk H
          clear H
          obtain ⟨hcz13_0, hcz13_1, hcz13_2⟩ := zc3 BK224
          obtain ⟨hfz13_0, hfz13_1, hfz13_2⟩ := zf3 BK224
          go_wp2_with (first | ((with_reducible refine gate_callee (f := 72) rfl ?_); refine goesL_ (some 19) rfl rfl Try.func72 (by kernel_rfl) rfl #[.agg #[.int .i64 a0_0, .int .i64 a0_1, .int .i64 a0_2], .int .i64 x6_1] rfl zM ?_; (with_reducible refine (spec_l03Drawn.calls k1 a0_0 a0_1 a0_2 x6_1 t228 _ A7.out).mono ?_); rintro e w14 ⟨rfl, hb⟩; refine ⟨_, rfl, ?_⟩; refine zA3 (Kd.R_below (zR HO_5.out) hb) (blk_below (g := gb224) (o := .cells #[.int .i64 a0_0, .int .i64 a0_1, .int .i64 a0_2] 25 (0, 0)) (zB BK224.out) hb) (below_step (zH1 HB.out GE224.out) hb) ?_; clear HO_5 BK224 HB; intro HO_5 BK224 HB; (try clear hb); (try clear hb2); (try clear hk); (try clear hi)))
          go_roundg k1
          case measure => have := HK1.out; omega
          case rel => exact ⟨(x5_1), (wrap64 (x6_1 + 1)), (zF), H', ⟨by have := HK1.out; omega⟩, ⟨zR HO_5.out⟩, ⟨zB BK224.out⟩, ⟨zH1 HB.out GE224.out⟩⟩
      · rw [if_neg c6] at H
        have c6b0 := decide_eq_false c6
        clear c6
        obtain rfl := Option.some.inj H
        obtain ⟨hcz15_0, hcz15_1, hcz15_2⟩ := zc3 BK224
        obtain ⟨hfz15_0, hfz15_1, hfz15_2⟩ := zf3 BK224
        go_wp2
        go_ret
        exact ⟨_, zE, by (with_reducible repeat (first | apply Kd.R_alloc | apply Kd.R_drewN | apply Kd.R_drew)); exact HO_5.out, zH1 HB.out GE224.out⟩

/-! ### spec_l03Move: function 30 -/
def spec_l03Move.f (k : Nat) (a0_0 : Int) (a0_1 : Int) (a0_2 : Int) (a1 : Int) : Option (Int × Int × Int × Int) := (spec_l03With.f k a0_0 a0_1 a0_2 4).bind fun t234 => (if 0 ≤ (IntKind.u64.wrap (a1)) then ((spec_l03With.f k a0_0 a0_1 (Go.bits .or .i64 a0_2 (shl .i64 1 (IntKind.u64.wrap (a1)))) 4).bind fun t237 => (some (a0_0, a0_1, Go.bits .or .i64 a0_2 (shl .i64 1 (IntKind.u64.wrap (a1))), wrap64 ((t237.length : Int) - (t234.length : Int))))) else (none))
theorem spec_l03Move.mono : ∀ a0 a1 a2 a3 k, LeO (spec_l03Move.f k a0 a1 a2 a3) (spec_l03Move.f (k + 1) a0 a1 a2 a3) := by
  intro a0 a1 a2 a3 k
  unfold spec_l03Move.f
  repeat' first
      | (with_reducible exact spec_l03With.mono _ _ _ _ _)
      | (with_reducible exact LeO.refl _)
      | (with_reducible exact LeO.none _)
      | (with_reducible refine LeO.ite ?_ ?_)
      | (with_reducible refine LeO.bind ?_ (fun _ => ?_))
      | exact spec_l03With.mono _ _ _ _ _
      | exact LeO.none _
      | refine LeO.ite ?_ ?_
      | refine LeO.bind ?_ (fun _ => ?_)
def spec_l03Move.T3 : Bool × List (List Nat × List Nat) := (true, [([], []), ([], []), ([1], [1]), ([2], [2]), ([], []), ([3, 4], [3, 4]), ([0, 2, 0], [0]), ([5, 6, 0, 1, 2, 3, 4, 5, 6], [5])])
def spec_l03Move.B3 : List Nat := [0, 0, 2, 6, 0, 30, 7, 127]
theorem spec_l03Move.tab3 : rtab .any (opsOf Try.f30 3) = spec_l03Move.T3 := by kernel_rfl
theorem spec_l03Move.bits3 : waitsOk spec_l03Move.T3.2 spec_l03Move.B3 = true := by kernel_rfl
set_option maxHeartbeats 8000000 in
set_option maxRecDepth 100000 in
theorem spec_l03Move.calls (k : Nat) (a0_0 : Int) (a0_1 : Int) (a0_2 : Int) (a1 : Int) (r1 : Int) (r2 : Int) (r3 : Int) (r4 : Int) (w : World) (h : spec_l03Move.f k a0_0 a0_1 a0_2 a1 = some (r1, r2, r3, r4)) :
    Calls Try.prog 30 #[.agg #[.int .i64 a0_0, .int .i64 a0_1, .int .i64 a0_2], .int .i64 a1] w fun e w' => e = .returned (.tuple #[.agg #[.int .i64 r1, .int .i64 r2, .int .i64 r3], .int .i64 r4]) ∧ Below w.heap.size w w' := by
  have hu25 := Try.underlying25
  have HB := Aside0.mk (Below.refl w.heap.size w)
  have H : ((spec_l03With.f k a0_0 a0_1 a0_2 4).bind fun t234 => (if 0 ≤ (IntKind.u64.wrap (a1)) then ((spec_l03With.f k a0_0 a0_1 (Go.bits .or .i64 a0_2 (shl .i64 1 (IntKind.u64.wrap (a1)))) 4).bind fun t237 => (some (a0_0, a0_1, Go.bits .or .i64 a0_2 (shl .i64 1 (IntKind.u64.wrap (a1))), wrap64 ((t237.length : Int) - (t234.length : Int))))) else (none))) = some (r1, r2, r3, r4) := h
  clear h
  obtain ⟨t234, A3, H⟩ := zb H
  obtain ⟨ji4, hji4⟩ := zj (IntKind.u64.wrap (a1))
  (first | rw [hji4] at H | simp only [hji4] at H)
  (try rw [hji4] at A3)
  by_cases c5 : 0 ≤ (ji4)
  · rw [if_pos c5] at H
    have c5b0 := eq_true c5
    have c5b1 := decide_eq_true c5
    clear c5
    obtain ⟨ji6, hji6⟩ := zj (shl .i64 1 (ji4))
    (first | rw [hji6] at H | simp only [hji6] at H)
    (try rw [hji6] at A3)
    have hji6_ : (IntKind.i64.wrap (1 * 2 ^ min (ji4).toNat 64)) = ji6 := hji6
    have hji6z : (ji4) ≤ 64 → (IntKind.i64.wrap (1 * 2 ^ (ji4).toNat)) = ji6 := shl_small hji6
    have hji6u : (IntKind.i64.wrap (2 ^ min (ji4).toNat 64)) = ji6 := by have h_ := hji6_; rw [Int.one_mul] at h_; exact h_
    have hji6v : (ji4) ≤ 64 → (IntKind.i64.wrap (2 ^ (ji4).toNat)) = ji6 := fun hle_ => by have h_ := hji6z hle_; rw [Int.one_mul] at h_; exact h_
    have hji6y : (wrap64 (1 * 2 ^ min (ji4).toNat 64)) = ji6 := (i64_w _).symm.trans hji6_
    have hji6x : (ji4) ≤ 64 → (wrap64 (1 * 2 ^ (ji4).toNat)) = ji6 := fun h_ => (i64_w _).symm.trans (hji6z h_)
    obtain ⟨t237, A7, H⟩ := zb H
    simp only [Option.some.injEq, Prod.mk.injEq] at H
    obtain ⟨rfl, rfl, rfl, rfl⟩ := H
    go_enter Try.func30, Try.ntmps30
    try go_wp2_with (first | ((with_reducible refine gate_dst (N := 2) rfl ?_); refine zX 2 #[.int .i64 a0_0, .int .i64 a0_1, .int .i64 a0_2] 25 ?_; intro gb232 hg w8 hbox hb; refine zA4 (below_step (zH HB.out) hb) (hbox) ((zS hg (below_size (zH HB.out)) : w.heap.size ≤ gb232)) ((zS hg (below_size (zH HB.out)) : w.heap.size ≤ gb232)) ?_; clear HB; intro HB BK232 GW232 GE232; clear hb hbox hg) | ((with_reducible refine gate_dst (N := 4) rfl ?_); refine zX 4 #[.int .i64 0, .int .i64 0, .int .i64 0] 25 ?_; intro gb233 hg w9 hbox hb; refine zA7 (blk_below (g := gb232) (o := .cells #[.int .i64 a0_0, .int .i64 a0_1, .int .i64 a0_2] 25 (0, 0)) (zB BK232.out) hb) (below_step (zH1 HB.out GE232.out) hb) (hbox) ((zS hg (below_size (zH1 HB.out GE232.out)) : w.heap.size ≤ gb233)) ((zS hg (below_size (zH1 HB.out GE232.out)) : w.heap.size ≤ gb233)) ((zl hg (blk_lt (g := gb232) (o := .cells #[.int .i64 a0_0, .int .i64 a0_1, .int .i64 a0_2] 25 (0, 0)) (zB BK232.out)) : gb232 ≠ gb233)) ((zg hg (blk_lt (g := gb232) (o := .cells #[.int .i64 a0_0, .int .i64 a0_1, .int .i64 a0_2] 25 (0, 0)) (zB BK232.out)) : gb233 ≠ gb232)) ?_; clear BK232 HB; intro BK232 HB BK233 GW233 GE233 NB232_233 NB233_232; clear hb hbox hg; have hnb10 := NB232_233.out; have hnc10 := NB233_232.out; obtain ⟨hcz11_0, hcz11_1, hcz11_2⟩ := zc3 BK232; obtain ⟨hfz11_0, hfz11_1, hfz11_2⟩ := zf3 BK232) | ((with_reducible refine gate_callee (f := 58) rfl ?_); refine goesL_ (some 8) rfl rfl Try.func58 (by kernel_rfl) rfl #[.agg #[.int .i64 a0_0, .int .i64 a0_1, .int .i64 a0_2], .int .i64 4] rfl zM ?_; (with_reducible refine (spec_l03With.calls k a0_0 a0_1 a0_2 4 t234 _ A3.out).mono ?_); rintro e w12 ⟨v235, rfl, ho0, hb⟩; refine ⟨_, rfl, ?_⟩; refine zA4 (Kd.R_lower ho0 (below_size (zH2 HB.out GE232.out GE233.out))) (blk_below (g := gb232) (o := .cells #[.int .i64 a0_0, .int .i64 a0_1, .int .i64 a0_2] 25 (0, 0)) (zB BK232.out) hb) (blk_below (g := gb233) (o := .cells #[.int .i64 0, .int .i64 0, .int .i64 0] 25 (0, 0)) (zB BK233.out) hb) (below_step (zH2 HB.out GE232.out GE233.out) hb) ?_; clear BK232 BK233 HB; intro HO236 BK232 BK233 HB; (try clear hb); (try clear hb2); (try clear hk); (try clear hi); (try clear ho0); obtain ⟨Ao13, co13, eo13⟩ := Kd.R_slice HO236.out; subst eo13; obtain ⟨hcz14_0, hcz14_1, hcz14_2⟩ := zc3 BK232; obtain ⟨hfz14_0, hfz14_1, hfz14_2⟩ := zf3 BK232))
    have n0_ : Aside0 (Kd.R (Kd.int .i64) 2 (w12.setCell ⟨gb232, 2, none⟩ (.int .i64 (Go.bits .or .i64 a0_2 (ji6)))) w.heap.size (fun _ => True) (.slice Ao13 t234.length co13) t234) := ⟨zRm (Kd.R_far (p := ⟨gb232, 2, none⟩) (Kd.R_types HO236.out BK232.out (by decide)) (fun _ hk => hk.2) (.int .i64 (Go.bits .or .i64 a0_2 (ji6)))) (fun _ hk => trivial)⟩
    have n1_ : Aside0 ((w12.setCell ⟨gb232, 2, none⟩ (.int .i64 (Go.bits .or .i64 a0_2 (ji6)))).heap[gb232]? = some (.cells #[.int .i64 a0_0, .int .i64 a0_1, .int .i64 (Go.bits .or .i64 a0_2 (ji6))] 25 (0, 0))) := ⟨by (with_reducible repeat (first | refine blk_drewN ?_ _ | refine blk_drew ?_ | refine blk_alloc ?_ _)); refine blk_put (cs := #[.int .i64 a0_0, .int .i64 a0_1, .int .i64 a0_2]) ?_ 2 _ rfl; (with_reducible repeat (first | refine blk_drewN ?_ _ | refine blk_drew ?_ | refine blk_alloc ?_ _)); exact BK232.out⟩
    have n2_ : Aside0 ((w12.setCell ⟨gb232, 2, none⟩ (.int .i64 (Go.bits .or .i64 a0_2 (ji6)))).heap[gb233]? = some (.cells #[.int .i64 0, .int .i64 0, .int .i64 0] 25 (0, 0))) := ⟨by (with_reducible repeat (first | refine blk_drewN ?_ _ | refine blk_drew ?_ | refine blk_alloc ?_ _)); refine blk_far ?_ NB233_232.out _; (with_reducible repeat (first | refine blk_drewN ?_ _ | refine blk_drew ?_ | refine blk_alloc ?_ _)); exact BK233.out⟩
    have n3_ : Aside0 (Below w.heap.size w (w12.setCell ⟨gb232, 2, none⟩ (.int .i64 (Go.bits .or .i64 a0_2 (ji6))))) := ⟨zH2 HB.out GE232.out GE233.out⟩
    (try clear HO236)
    (try clear BK232)
    (try clear BK233)
    (try clear HB)
    generalize (w12.setCell ⟨gb232, 2, none⟩ (.int .i64 (Go.bits .or .i64 a0_2 (ji6)))) = w15 at n0_ n1_ n2_ n3_ ⊢
    have HO236 := n0_
    have BK232 := n1_
    have BK233 := n2_
    have HB := n3_
    clear n0_ n1_ n2_ n3_
    refine zA4 (Kd.R_drew HO236.out) (blk_drew BK232.out) (blk_drew BK233.out) (below_drew1 HB.out) ?_
    clear HO236 BK232 BK233 HB
    intro HO236 BK232 BK233 HB
    refine start_ (n := 8) (S := fun w' => w'.cell? ⟨gb232, 0, none⟩ = some (.int .i64 a0_0) ∧ w'.cell? ⟨gb232, 1, none⟩ = some (.int .i64 a0_1) ∧ w'.cell? ⟨gb232, 2, none⟩ = some (.int .i64 (Go.bits .or .i64 a0_2 (ji6)))) (ds := []) #[false, false, false, false, false, false, false, false] (by kernel_rfl) rfl rfl ⟨(blk_cell BK232.out 0).trans rfl, (blk_cell BK232.out 1).trans rfl, (blk_cell BK232.out 2).trans rfl⟩ (fun hHeld => ?_); refine with_tabW spec_l03Move.tab3 spec_l03Move.bits3 (fun HT_ HW_ => ?_)
    generalize w15.drew = w16 at HO236 BK232 BK233 HB hHeld ⊢
    refine zP HT_ 4 (some 21) rfl rfl ?_
    refine zT HT_ HW_ hHeld 0 (some 17) rfl rfl ?_
    refine zT HT_ HW_ hHeld 1 (some 18) rfl rfl ?_
    refine one_ (i := 2) (N := some 19) #[true, true, true, false, true, false, false, false] rfl rfl (one_of HT_.out (by kernel_rfl)) (by decide) (fun K hK => ?_)
    refine goes_ Try.func58 (by kernel_rfl) rfl #[.agg #[.int .i64 a0_0, .int .i64 a0_1, .int .i64 (Go.bits .or .i64 a0_2 (ji6))], .int .i64 4] (by rfl) rfl rfl (zM1 hji6) ?_
    with_reducible refine (spec_l03With.calls k a0_0 a0_1 (Go.bits .or .i64 a0_2 (ji6)) 4 t237 _ A7.out).mono ?_
    rintro e w17 ⟨v238, rfl, ho0, hb⟩
    refine ⟨_, rfl, ?_⟩
    refine zA5 (Kd.R_elder' (zR HO236.out) (Kd.R_base ho0) hb) (Kd.R_lower (Kd.R_new' ho0 (Kd.R_lt (zR HO236.out))) (below_size (zH2 HB.out GE232.out GE233.out))) (blk_below (g := gb232) (o := .cells #[.int .i64 a0_0, .int .i64 a0_1, .int .i64 (Go.bits .or .i64 a0_2 (ji6))] 25 (0, 0)) (zB BK232.out) hb) (blk_below (g := gb233) (o := .cells #[.int .i64 0, .int .i64 0, .int .i64 0] 25 (0, 0)) (zB BK233.out) hb) (below_step (zH2 HB.out GE232.out GE233.out) hb) ?_
    clear HO236 BK232 BK233 HB
    intro HO236 HO239 BK232 BK233 HB
    (try clear hb)
    (try clear hb2)
    (try clear hk)
    (try clear hi)
    (try clear ho0)
    obtain ⟨Ao18, co18, eo18⟩ := Kd.R_slice HO239.out
    (first | subst eo18 | (injection eo18 with f1_ f2_ f3_; have f4_ := f1_.symm; have f5_ := f3_.symm; clear f1_ f2_ f3_; subst f4_; subst f5_))
    refine hK.out _ _ ⟨(blk_cell BK232.out 0).trans rfl, (blk_cell BK232.out 1).trans rfl, (blk_cell BK232.out 2).trans rfl⟩ (fun hHeld => ?_)
    clear hK K
    refine zW (some 19) ?_
    refine zP HT_ 3 (some 20) rfl rfl ?_
    refine zP HT_ 5 (some 22) rfl rfl ?_
    refine one_ (i := 6) (N := none) #[true, true, true, true, true, true, true, false] rfl rfl (one_of HT_.out (by kernel_rfl)) (by decide) (fun K hK => ?_)
    have hs19 : w17.cell? ⟨gb233, 0, none⟩ = some (.int .i64 0) := (blk_cell BK233.out 0).trans rfl
    have hfs19 := blk_frozen BK233.out 0
    have hns19_0 := NB232_233.out
    have hms19_0 := NB233_232.out
    have hs20 : w17.cell? ⟨gb233, 1, none⟩ = some (.int .i64 0) := (blk_cell BK233.out 1).trans rfl
    have hfs20 := blk_frozen BK233.out 1
    have hns20_0 := NB232_233.out
    have hms20_0 := NB233_232.out
    have hs21 : w17.cell? ⟨gb233, 2, none⟩ = some (.int .i64 0) := (blk_cell BK233.out 2).trans rfl
    have hfs21 := blk_frozen BK233.out 2
    have hns21_0 := NB232_233.out
    have hms21_0 := NB233_232.out
    refine skip_ (w1 := ?_) (by rfl) rfl ?_ ?_
    rotate_left
    · go_simp
      rfl
    refine hK.out _ _ ⟨((cell_far (p := ⟨gb233, _, none⟩) NB232_233.out _).trans (((cell_far (p := ⟨gb233, _, none⟩) NB232_233.out _).trans (((cell_far (p := ⟨gb233, _, none⟩) NB232_233.out _).trans (hHeld.1)))))), ((cell_far (p := ⟨gb233, _, none⟩) NB232_233.out _).trans (((cell_far (p := ⟨gb233, _, none⟩) NB232_233.out _).trans (((cell_far (p := ⟨gb233, _, none⟩) NB232_233.out _).trans (hHeld.2.1)))))), ((cell_far (p := ⟨gb233, _, none⟩) NB232_233.out _).trans (((cell_far (p := ⟨gb233, _, none⟩) NB232_233.out _).trans (((cell_far (p := ⟨gb233, _, none⟩) NB232_233.out _).trans (hHeld.2.2))))))⟩ (fun hHeld => ?_)
    clear hK K
    refine zP HT_ 7 (some 5) rfl rfl ?_
    refine done_ (done_of HT_.out (by kernel_rfl)) ?_
    try go_wp2
    refine bodyPost_ret (results_ct rfl _ _ gb233 25 #[.int .i64 a0_0, .int .i64 a0_1, .int .i64 (Go.bits .or .i64 a0_2 (ji6))] (0, 0) _ rfl (by (with_reducible repeat (first | refine blk_drewN ?_ _ | refine blk_drew ?_ | refine blk_alloc ?_ _)); refine blk_put (cs := #[.int .i64 a0_0, .int .i64 a0_1, .int .i64 0]) ?_ 2 _ rfl; (with_reducible repeat (first | refine blk_drewN ?_ _ | refine blk_drew ?_ | refine blk_alloc ?_ _)); refine blk_put (cs := #[.int .i64 a0_0, .int .i64 0, .int .i64 0]) ?_ 1 _ rfl; (with_reducible repeat (first | refine blk_drewN ?_ _ | refine blk_drew ?_ | refine blk_alloc ?_ _)); refine blk_put (cs := #[.int .i64 0, .int .i64 0, .int .i64 0]) ?_ 0 _ rfl; (with_reducible repeat (first | refine blk_drewN ?_ _ | refine blk_drew ?_ | refine blk_alloc ?_ _)); exact BK233.out) Try.underlying25 rfl (by kernel_rfl)) rfl ?_
    exact ⟨by first | rfl | (simp [errW_none, errW_some] <;> rfl) | (simp only [← hji4, ← hji6]; first | rfl | (simp [errW_none, errW_some] <;> rfl)) | (simp [*, errW_none, errW_some] <;> rfl), zH2 HB.out GE232.out GE233.out⟩
  · rw [if_neg c5] at H
    exact absurd H (by simp)

/-! ### spec_l03Table: function 26 -/
def spec_l03Table.l0 : Nat → List Int → Int → Int → Option (List Int)
  | 0, _, _, _ => none
  | k + 1, x3, x11, x12 => if x12 < x11 then (if 0 ≤ x12 then (if x12 < (x3.length : Int) then (spec_l03Table.l0 k (x3.set (x12 : Int).toNat (-100)) x11 (wrap64 (x12 + 1))) else (none)) else (none)) else (some x3)
def spec_l03Table.f (k : Nat) (l0 : List Int) : Option (List Int) := if 0 ≤ (IntKind.u64.wrap ((l0.length : Int))) then (if 0 ≤ (shl .i64 1 (IntKind.u64.wrap ((l0.length : Int)))) then (if (shl .i64 1 (IntKind.u64.wrap ((l0.length : Int))) : Int).toNat ≤ 35184372088832 then ((some (List.replicate (shl .i64 1 (IntKind.u64.wrap ((l0.length : Int))) : Int).toNat 0 : List Int)).bind fun y252 => (spec_l03Table.l0 k y252 (y252.length : Int) 0)) else (none)) else (none)) else (none)
theorem spec_l03Table.mono_l : ∀ k, (∀ y0 y1 y2, LeO (spec_l03Table.l0 k y0 y1 y2) (spec_l03Table.l0 (k + 1) y0 y1 y2))
  | 0 => fun _ _ _ r h => by simp [spec_l03Table.l0] at h
  | k + 1 => by
    have ih0 := spec_l03Table.mono_l k
    · intro y0 y1 y2
      unfold spec_l03Table.l0
      repeat' first
      | (with_reducible exact ih0 _ _ _)
      | (with_reducible exact LeO.refl _)
      | (with_reducible exact LeO.none _)
      | (with_reducible refine LeO.ite ?_ ?_)
      | (with_reducible refine LeO.bind ?_ (fun _ => ?_))
      | exact ih0 _ _ _
      | exact LeO.none _
      | refine LeO.ite ?_ ?_
      | refine LeO.bind ?_ (fun _ => ?_)
theorem spec_l03Table.mono : ∀ a0 k, LeO (spec_l03Table.f k a0) (spec_l03Table.f (k + 1) a0) := by
  intro a0 k
  have ih0 := spec_l03Table.mono_l k
  unfold spec_l03Table.f
  repeat' first
      | (with_reducible exact ih0 _ _ _)
      | (with_reducible exact LeO.refl _)
      | (with_reducible exact LeO.none _)
      | (with_reducible refine LeO.ite ?_ ?_)
      | (with_reducible refine LeO.bind ?_ (fun _ => ?_))
      | exact ih0 _ _ _
      | exact LeO.none _
      | refine LeO.ite ?_ ?_
      | refine LeO.bind ?_ (fun _ => ?_)
set_option maxHeartbeats 8000000 in
set_option maxRecDepth 100000 in
theorem spec_l03Table.calls (k : Nat) (A0 : Option Addr) (c0 : Nat) (l0 : List Int) (r : List Int) (w : World) (hr0 : Kd.C (Kd.int .i64) w A0 l0.length l0) (hc0 : l0.length ≤ c0) (h : spec_l03Table.f k l0 = some r) :
    Calls Try.prog 26 #[.slice A0 l0.length c0] w fun e w' => ∃ v0_ : Value, e = .returned (v0_) ∧ Kd.R (Kd.int .i64) 2 w' w.heap.size (fun _ => True) v0_ r ∧ Below w.heap.size w w' := by
  have HR0 := Aside0.mk hr0
  have HC0 := Aside0.mk hc0
  clear hr0 hc0
  have HB := Aside0.mk (Below.refl w.heap.size w)
  have H : (if 0 ≤ (IntKind.u64.wrap ((l0.length : Int))) then (if 0 ≤ (shl .i64 1 (IntKind.u64.wrap ((l0.length : Int)))) then (if (shl .i64 1 (IntKind.u64.wrap ((l0.length : Int))) : Int).toNat ≤ 35184372088832 then ((some (List.replicate (shl .i64 1 (IntKind.u64.wrap ((l0.length : Int))) : Int).toNat 0 : List Int)).bind fun y252 => (spec_l03Table.l0 k y252 (y252.length : Int) 0)) else (none)) else (none)) else (none)) = some r := h
  clear h
  obtain ⟨ji2, hji2⟩ := zj (IntKind.u64.wrap ((l0.length : Int)))
  (first | rw [hji2] at H | simp only [hji2] at H)
  by_cases c3 : 0 ≤ (ji2)
  · rw [if_pos c3] at H
    have c3b0 := eq_true c3
    have c3b1 := decide_eq_true c3
    clear c3
    obtain ⟨ji4, hji4⟩ := zj (shl .i64 1 (ji2))
    (first | rw [hji4] at H | simp only [hji4] at H)
    have hji4_ : (IntKind.i64.wrap (1 * 2 ^ min (ji2).toNat 64)) = ji4 := hji4
    have hji4z : (ji2) ≤ 64 → (IntKind.i64.wrap (1 * 2 ^ (ji2).toNat)) = ji4 := shl_small hji4
    have hji4u : (IntKind.i64.wrap (2 ^ min (ji2).toNat 64)) = ji4 := by have h_ := hji4_; rw [Int.one_mul] at h_; exact h_
    have hji4v : (ji2) ≤ 64 → (IntKind.i64.wrap (2 ^ (ji2).toNat)) = ji4 := fun hle_ => by have h_ := hji4z hle_; rw [Int.one_mul] at h_; exact h_
    have hji4y : (wrap64 (1 * 2 ^ min (ji2).toNat 64)) = ji4 := (i64_w _).symm.trans hji4_
    have hji4x : (ji2) ≤ 64 → (wrap64 (1 * 2 ^ (ji2).toNat)) = ji4 := fun h_ => (i64_w _).symm.trans (hji4z h_)
    by_cases c5 : 0 ≤ (ji4)
    · rw [if_pos c5] at H
      have c5b0 := eq_true c5
      have c5b1 := decide_eq_true c5
      clear c5
      by_cases c6 : (ji4 : Int).toNat ≤ 35184372088832
      · rw [if_pos c6] at H
        have c6b0 := eq_true c6
        have c6b1 := decide_eq_true c6
        clear c6
        obtain ⟨y252, hy252⟩ : ∃ y_ : List Int, y_ = (List.replicate (ji4 : Int).toNat 0) := ⟨_, rfl⟩
        replace H : (spec_l03Table.l0 k y252 (y252.length : Int) 0) = some r := by first | (rw [hy252]; with_reducible exact H) | (have H2_ := (Option.bind_some _ _).symm.trans H; rw [hy252]; with_reducible exact H2_) | (have H2_ := (Option.bind_some _ _).symm.trans H; with_reducible exact H2_) | with_reducible exact H | (rw [hy252]; exact H) | exact H
        have Ny252 := Aside0.mk hy252
        clear hy252
        have H' := Aside0.mk H
        clear H
        go_enter Try.func26, Try.ntmps26
        go_wp2_with (first | ((with_reducible refine gate_dst (N := 9) rfl ?_); refine Kd.R_make (Kd.int .i64) _ 2 rfl (N := 9) rfl 29 _ _ rfl ji4 rfl rfl Try.underlying29 (.int .i64 0) 8 info2 rfl (by decide) (by omega) 0 (ok := fun _ => True) (okp := fun _ => True) rfl (fun _ hk => hk) trivial (of_decide_eq_true (by first | (with_reducible assumption) | assumption)) (Nat.le_trans (Nat.mul_le_mul_right _ (of_decide_eq_true (by first | (with_reducible assumption) | assumption) : ji4.toNat ≤ 35184372088832)) (by omega)) (Below.refl _ _) (Nat.le_refl _) ?_; intro v253 w7 ho8 hb hg_ hnew_; clear hg_ hnew_; (first | rw [← Ny252.out] at ho8 | (simp only [Int.reduceToNat] at ho8; rw [← Ny252.out] at ho8)); refine zA2 (Kd.R_lower ho8 (below_size (zH HB.out))) (below_step (zH HB.out) hb) ?_; clear HB; intro HO254 HB; clear hb ho8; obtain ⟨Ao9, co9, eo9⟩ := Kd.R_slice HO254.out; subst eo9))
        go_loopg [12] k (fun kq v12 w' => ∃ (x3_1 : List Int) (x12_1 : Int), v12 = .int .i64 x12_1 ∧ Aside0 (spec_l03Table.l0 kq x3_1 (y252.length : Int) x12_1 = some r) ∧ Aside0 (kq ≤ k) ∧ Aside0 (Kd.R (Kd.int .i64) 2 w' w.heap.size (fun _ => True) (.slice Ao9 y252.length co9) x3_1) ∧ Aside0 (Below w.heap.size w w'))
        case atStart => exact ⟨(y252), (0), (zF), H', ⟨Nat.le_refl _⟩, ⟨zR HO254.out⟩, ⟨zH HB.out⟩⟩
        case round =>
          clear H'
          try clear c2
          try clear p2
          try clear c3
          try clear c3b0
          try clear c3b1
          try clear c5
          try clear c5b0
          try clear c5b1
          try clear c6
          try clear c6b0
          try clear c6b1
          try clear p6
          obtain ⟨x3_1, x12_1, rfl, HA, HK1, HO_3, HB⟩ := hrel
          have hl3_1 := (Kd.R_reads' HO_3.out).1
          rw [hl3_1] at HO_3
          (try simp only [hl3_1])
          cases gk with
          | zero => exact absurd HA.out (by simp [spec_l03Table.l0])
          | succ k1 =>
            have H := HA.out
            clear HA
            simp only [spec_l03Table.l0] at H
            by_cases c10 : x12_1 < (y252.length : Int)
            · rw [if_pos c10] at H
              have c10b0 := decide_eq_true c10
              (try (have c10b9 := c10b0; rw [hl3_1] at c10b9))
              clear c10
              by_cases c11 : 0 ≤ x12_1
              · rw [if_pos c11] at H
                have c11b0 := decide_eq_true c11
                clear c11
                by_cases c12 : x12_1 < (x3_1.length : Int)
                · rw [if_pos c12] at H
                  have c12b0 := decide_eq_true c12
                  clear c12
                  obtain ⟨y255, hy255⟩ : ∃ y_ : List Int, y_ = (x3_1.set (x12_1 : Int).toNat (-100)) := ⟨_, rfl⟩
                  replace H : (spec_l03Table.l0 k1 y255 (y252.length : Int) (wrap64 (x12_1 + 1))) = some r := by first | (rw [hy255]; with_reducible exact H) | (have H2_ := (Option.bind_some _ _).symm.trans H; rw [hy255]; with_reducible exact H2_) | (have H2_ := (Option.bind_some _ _).symm.trans H; with_reducible exact H2_) | with_reducible exact H | (rw [hy255]; exact H) | exact H
                  have Ny255 := Aside0.mk hy255
                  clear hy255
                  have H' := Aside0.mk H
                  clear H
                  have p13 : 0 ≤ (x12_1 : Int) := of_decide_eq_true (by first | (with_reducible assumption) | assumption)
                  have q13 : (x12_1 : Int) < ((x3_1.length : Int) : Int) := of_decide_eq_true (by first | (with_reducible assumption) | assumption)
                  obtain ⟨go13, co13, eo13, gb13, gl13, cl13, HG13⟩ := Kd.R_form HO_3.out (by omega)
                  (first | cases eo13 | (injection eo13 with ea_ en_ ec_; (first | subst ea_ | (injection ea_ with ea_; subst ea_)); subst ec_; clear en_))
                  have GB13 := Aside0.mk gb13
                  have GG13 := Aside0.mk HG13
                  clear gb13 gl13 HG13
                  obtain ⟨hx13_0, hf13_0⟩ := Kd.R_celln 0 HO_3.out (x12_1 : Int) p13 q13
                  replace p13 := eq_true p13
                  replace q13 := eq_true q13
                  have HP14 := Kd.R_putg HO_3.out (x12_1 : Int) (-100)
                  go_wp2_with (first | ((with_reducible refine gate_store (t := 2) (p := 17) rfl ?_); refine store_event (t := 2) (p := 17) (v := ?vo_w15) (w1 := (wr.setCell ⟨go13, (x12_1 : Int).toNat, none⟩ (.int .i64 (-100)))) ?hg ?ho ?hn ?hr ?_; (case ho => rfl); (case hg => rfl); (case hn => rfl); (case hr => first | (go_simp; done) | (go_simp; rfl)); intro w15 hw; have hg : wr.grownBy w15 (some go13) := (by rw [hw]; exact HP14.2); have hp_ : Kd.R (Kd.int .i64) 2 w15 w.heap.size (fun _ => True) (.slice (some ⟨go13, 0, none⟩) x3_1.length co9) y255 := (by rw [hw, Ny255.out]; exact HP14.1); clear HP14; refine zA2 (hp_) ((by rw [hw]; exact below_set (HB.out) GB13.out : Below w.heap.size w w15)) ?_; clear HO_3 HB; intro HO_3 HB; clear hg hw hp_))
                  (try simp only [← hl3_1])
                  go_roundg k1
                  case measure => have := HK1.out; omega
                  case rel => exact ⟨(y255), (wrap64 (x12_1 + 1)), (zF), H', ⟨by have := HK1.out; omega⟩, ⟨by (try simp only [hl3_1]); exact zR HO_3.out⟩, ⟨zH HB.out⟩⟩
                · rw [if_neg c12] at H
                  exact absurd H (by simp)
              · rw [if_neg c11] at H
                exact absurd H (by simp)
            · rw [if_neg c10] at H
              have c10b0 := decide_eq_false c10
              (try (have c10b9 := c10b0; rw [hl3_1] at c10b9))
              clear c10
              obtain rfl := Option.some.inj H
              go_wp2
              go_ret
              exact ⟨_, by first | rfl | (simp [errW_none, errW_some] <;> rfl) | (simp only [← hji2, ← hji4]; first | rfl | (simp [errW_none, errW_some] <;> rfl)) | (simp [*, errW_none, errW_some] <;> rfl), by (with_reducible repeat (first | apply Kd.R_alloc | apply Kd.R_drewN | apply Kd.R_drew)); exact HO_3.out, zH HB.out⟩
      · rw [if_neg c6] at H
        exact absurd H (by simp)
    · rw [if_neg c5] at H
      exact absurd H (by simp)
  · rw [if_neg c3] at H
    exact absurd H (by simp)

-- NOT PRINTED: function 69 (slices_IndexFunc_int64_int64)

-- NOT PRINTED: function 54 (slices_DeleteFunc_int64_int64)

/-! ### laws_likeInts: function 12 -/
def laws_likeInts.l0 : Nat → List Int → List Int → Int → Option (Bool)
  | 0, _, _, _ => none
  | k + 1, x0, x1, x5 => if x5 < (x0.length : Int) then (if 0 ≤ x5 then (if x5 < (x1.length : Int) then (if (rd x0 x5) = (rd x1 x5) then (laws_likeInts.l0 k x0 x1 (wrap64 (x5 + 1))) else (some false)) else (none)) else (none)) else (some true)
def laws_likeInts.f (k : Nat) (l0 : List Int) (l1 : List Int) : Option (Bool) := if (l0.length : Int) = (l1.length : Int) then (laws_likeInts.l0 k l0 l1 0) else (some false)
theorem laws_likeInts.mono_l : ∀ k, (∀ y0 y1 y2, LeO (laws_likeInts.l0 k y0 y1 y2) (laws_likeInts.l0 (k + 1) y0 y1 y2))
  | 0 => fun _ _ _ r h => by simp [laws_likeInts.l0] at h
  | k + 1 => by
    have ih0 := laws_likeInts.mono_l k
    · intro y0 y1 y2
      unfold laws_likeInts.l0
      repeat' first
      | (with_reducible exact ih0 _ _ _)
      | (with_reducible exact LeO.refl _)
      | (with_reducible exact LeO.none _)
      | (with_reducible refine LeO.ite ?_ ?_)
      | (with_reducible refine LeO.bind ?_ (fun _ => ?_))
      | exact ih0 _ _ _
      | exact LeO.none _
      | refine LeO.ite ?_ ?_
      | refine LeO.bind ?_ (fun _ => ?_)
theorem laws_likeInts.mono : ∀ a0 a1 k, LeO (laws_likeInts.f k a0 a1) (laws_likeInts.f (k + 1) a0 a1) := by
  intro a0 a1 k
  have ih0 := laws_likeInts.mono_l k
  unfold laws_likeInts.f
  repeat' first
      | (with_reducible exact ih0 _ _ _)
      | (with_reducible exact LeO.refl _)
      | (with_reducible exact LeO.none _)
      | (with_reducible refine LeO.ite ?_ ?_)
      | (with_reducible refine LeO.bind ?_ (fun _ => ?_))
      | exact ih0 _ _ _
      | exact LeO.none _
      | refine LeO.ite ?_ ?_
      | refine LeO.bind ?_ (fun _ => ?_)
set_option maxHeartbeats 8000000 in
set_option maxRecDepth 100000 in
theorem laws_likeInts.calls (k : Nat) (A0 : Option Addr) (c0 : Nat) (l0 : List Int) (A1 : Option Addr) (c1 : Nat) (l1 : List Int) (r : Bool) (w : World) (hr0 : Kd.C (Kd.int .i64) w A0 l0.length l0) (hc0 : l0.length ≤ c0) (hr1 : Kd.C (Kd.int .i64) w A1 l1.length l1) (hc1 : l1.length ≤ c1) (h : laws_likeInts.f k l0 l1 = some r) :
    Calls Try.prog 12 #[.slice A0 l0.length c0, .slice A1 l1.length c1] w fun e w' => e = .returned (.bool r) ∧ Drawn0 w w' := by
  have HR0 := Aside0.mk hr0
  have HC0 := Aside0.mk hc0
  clear hr0 hc0
  have HR1 := Aside0.mk hr1
  have HC1 := Aside0.mk hc1
  clear hr1 hc1
  have H : (if (l0.length : Int) = (l1.length : Int) then (laws_likeInts.l0 k l0 l1 0) else (some false)) = some r := h
  clear h
  by_cases c3 : (l0.length : Int) = (l1.length : Int)
  · rw [if_pos c3] at H
    have c3b0 := zq1 c3
    have c3b1 := zq2 c3
    have c3b2 : (l0.length == l1.length) = true := by first | simpa using c3 | (simp at c3 ⊢; omega)
    clear c3
    have H' := Aside0.mk H
    clear H
    go_enter Try.func12, Try.ntmps12
    go_wp2
    repeat (go_quiet (fail); try go_wp2)
    go_loopg [5] k (fun kq v5 w' => ∃ (x5_1 : Int), v5 = .int .i64 x5_1 ∧ Aside0 (laws_likeInts.l0 kq l0 l1 x5_1 = some r) ∧ Aside0 (kq ≤ k) ∧ Drawn0 w w')
    case atStart => exact ⟨(0), (zF), H', ⟨Nat.le_refl _⟩, zD⟩
    case round =>
      clear H'
      try clear c1
      try clear p2
      try clear c3
      try clear c3b0
      try clear c3b1
      try clear c3b2
      obtain ⟨x5_1, rfl, HA, HK1, ⟨m1, rfl⟩⟩ := hrel
      cases gk with
      | zero => exact absurd HA.out (by simp [laws_likeInts.l0])
      | succ k1 =>
        have H := HA.out
        clear HA
        simp only [laws_likeInts.l0] at H
        by_cases c4 : x5_1 < (l0.length : Int)
        · rw [if_pos c4] at H
          have c4b0 := decide_eq_true c4
          clear c4
          by_cases c5 : 0 ≤ x5_1
          · rw [if_pos c5] at H
            have c5b0 := decide_eq_true c5
            clear c5
            by_cases c6 : x5_1 < (l1.length : Int)
            · rw [if_pos c6] at H
              have c6b0 := decide_eq_true c6
              clear c6
              by_cases c7 : (rd l0 x5_1) = (rd l1 x5_1)
              · rw [if_pos c7] at H
                have c7b0 := zq1 c7
                have c7b1 := zq2 c7
                clear c7
                have H' := Aside0.mk H
                clear H
                have p317 : 0 ≤ (x5_1 : Int) := of_decide_eq_true (by first | (with_reducible assumption) | assumption)
                have q317 : x5_1 < (l0.length : Int) := of_decide_eq_true (by first | (with_reducible assumption) | assumption)
                obtain ⟨ad317, e317, hx317_0⟩ := Kd.at_int HR0.out x5_1 p317 q317
                cases e317
                replace p317 := eq_true p317
                replace q317 := eq_true q317
                have p318 : 0 ≤ (x5_1 : Int) := of_decide_eq_true (by first | (with_reducible assumption) | assumption)
                have q318 : x5_1 < (l1.length : Int) := of_decide_eq_true (by first | (with_reducible assumption) | assumption)
                obtain ⟨ad318, e318, hx318_0⟩ := Kd.at_int HR1.out x5_1 p318 q318
                cases e318
                replace p318 := eq_true p318
                replace q318 := eq_true q318
                go_wp2
                repeat (go_quiet (fail); try go_wp2)
                go_roundg k1
                case measure => have := HK1.out; omega
                case rel => exact ⟨(wrap64 (x5_1 + 1)), (zF), H', ⟨by have := HK1.out; omega⟩, zD⟩
              · rw [if_neg c7] at H
                have c7b0 := zq3 c7
                have c7b1 := zq4 c7
                obtain rfl := Option.some.inj H
                have p317 : 0 ≤ (x5_1 : Int) := of_decide_eq_true (by first | (with_reducible assumption) | assumption)
                have q317 : x5_1 < (l0.length : Int) := of_decide_eq_true (by first | (with_reducible assumption) | assumption)
                obtain ⟨ad317, e317, hx317_0⟩ := Kd.at_int HR0.out x5_1 p317 q317
                cases e317
                replace p317 := eq_true p317
                replace q317 := eq_true q317
                have p318 : 0 ≤ (x5_1 : Int) := of_decide_eq_true (by first | (with_reducible assumption) | assumption)
                have q318 : x5_1 < (l1.length : Int) := of_decide_eq_true (by first | (with_reducible assumption) | assumption)
                obtain ⟨ad318, e318, hx318_0⟩ := Kd.at_int HR1.out x5_1 p318 q318
                cases e318
                replace p318 := eq_true p318
                replace q318 := eq_true q318
                go_wp2
                repeat (go_quiet (fail); try go_wp2)
                go_ret
                exact ⟨zF, zD⟩
            · rw [if_neg c6] at H
              exact absurd H (by simp)
          · rw [if_neg c5] at H
            exact absurd H (by simp)
        · rw [if_neg c4] at H
          have c4b0 := decide_eq_false c4
          clear c4
          obtain rfl := Option.some.inj H
          go_wp2
          repeat (go_quiet (fail); try go_wp2)
          go_ret
          exact ⟨zF, zD⟩
  · rw [if_neg c3] at H
    have c3b0 := zq3 c3
    have c3b1 := zq4 c3
    have c3b2 : (l0.length == l1.length) = false := by first | simpa using c3 | (simp at c3 ⊢; omega)
    obtain rfl := Option.some.inj H
    go_enter Try.func12, Try.ntmps12
    go_wp2
    repeat (go_quiet (fail); try go_wp2)
    go_ret
    exact ⟨zF, zD⟩

/-! ### impl_boxesCode: function 34 -/
def impl_boxesCode.f (k : Nat) (a0_0 : Int) (a0_1 : Int) (a0_2 : Int) (a1 : Int) (a2 : Int) : Option (Int) := (impl_IsBoxes.f a0_0 a0_1 a0_2).bind fun t325 => ((impl_within.f a1 0 (wrap64 (a2 - 1))).bind fun t326 => ((impl_first.f k (([(⟨t325, 1⟩ : S73), (⟨t326, 2⟩ : S73)] : List (S73)))).bind fun t330 => (some t330)))
theorem impl_boxesCode.mono : ∀ a0 a1 a2 a3 a4 k, LeO (impl_boxesCode.f k a0 a1 a2 a3 a4) (impl_boxesCode.f (k + 1) a0 a1 a2 a3 a4) := by
  intro a0 a1 a2 a3 a4 k
  unfold impl_boxesCode.f
  repeat' first
      | (with_reducible exact impl_first.mono _ _)
      | (with_reducible exact LeO.refl _)
      | (with_reducible exact LeO.none _)
      | (with_reducible refine LeO.ite ?_ ?_)
      | (with_reducible refine LeO.bind ?_ (fun _ => ?_))
      | exact impl_first.mono _ _
      | exact LeO.none _
      | refine LeO.ite ?_ ?_
      | refine LeO.bind ?_ (fun _ => ?_)
set_option maxHeartbeats 8000000 in
set_option maxRecDepth 100000 in
theorem impl_boxesCode.calls (k : Nat) (a0_0 : Int) (a0_1 : Int) (a0_2 : Int) (a1 : Int) (a2 : Int) (r : Int) (w : World) (h : impl_boxesCode.f k a0_0 a0_1 a0_2 a1 a2 = some r) :
    Calls Try.prog 34 #[.agg #[.int .i64 a0_0, .int .i64 a0_1, .int .i64 a0_2], .int .i64 a1, .int .i64 a2] w fun e w' => e = .returned (.int .i64 r) ∧ Below w.heap.size w w' := by
  have hu25 := Try.underlying25
  have hu73 := Try.underlying73
  have HB := Aside0.mk (Below.refl w.heap.size w)
  have H : ((impl_IsBoxes.f a0_0 a0_1 a0_2).bind fun t325 => ((impl_within.f a1 0 (wrap64 (a2 - 1))).bind fun t326 => ((impl_first.f k (([(⟨t325, 1⟩ : S73), (⟨t326, 2⟩ : S73)] : List (S73)))).bind fun t330 => (some t330)))) = some r := h
  clear h
  obtain ⟨t325, A4, H⟩ := zb H
  obtain ⟨t326, A5, H⟩ := zb H
  obtain ⟨y327, hy327⟩ : ∃ y_ : List (S73), y_ = (([(⟨t325, 1⟩ : S73), (⟨t326, 2⟩ : S73)] : List (S73))) := ⟨_, rfl⟩
  replace H : ((impl_first.f k y327).bind fun t330 => (some t330)) = some r := by first | (rw [hy327]; with_reducible exact H) | (have H2_ := (Option.bind_some _ _).symm.trans H; rw [hy327]; with_reducible exact H2_) | (have H2_ := (Option.bind_some _ _).symm.trans H; with_reducible exact H2_) | with_reducible exact H | (rw [hy327]; exact H) | exact H
  have Ny327 := Aside0.mk hy327
  clear hy327
  obtain ⟨t330, A6, H⟩ := zb H
  obtain rfl := Option.some.inj H
  go_enter Try.func34, Try.ntmps34
  go_wp2_with (first | ((with_reducible refine gate_dst (N := 3) rfl ?_); refine zX 3 #[.int .i64 a0_0, .int .i64 a0_1, .int .i64 a0_2] 25 ?_; intro gb324 hg w7 hbox hb; refine zA4 (below_step (zH HB.out) hb) (hbox) ((zS hg (below_size (zH HB.out)) : w.heap.size ≤ gb324)) ((zS hg (below_size (zH HB.out)) : w.heap.size ≤ gb324)) ?_; clear HB; intro HB BK324 GW324 GE324; clear hb hbox hg; obtain ⟨hcz8_0, hcz8_1, hcz8_2⟩ := zc3 BK324; obtain ⟨hfz8_0, hfz8_1, hfz8_2⟩ := zf3 BK324) | ((with_reducible refine gate_callee (f := 31) rfl ?_); refine goesL_ (some 8) rfl rfl Try.func31 (by kernel_rfl) rfl #[.agg #[.int .i64 a0_0, .int .i64 a0_1, .int .i64 a0_2]] rfl zM ?_; (with_reducible refine (impl_IsBoxes.calls a0_0 a0_1 a0_2 t325 _ A4.out).mono ?_); rintro e w9 ⟨rfl, hb⟩; refine ⟨_, rfl, ?_⟩; refine zA2 (blk_below (g := gb324) (o := .cells #[.int .i64 a0_0, .int .i64 a0_1, .int .i64 a0_2] 25 (0, 0)) (zB BK324.out) hb) (below_step (zH1 HB.out GE324.out) hb) ?_; clear BK324 HB; intro BK324 HB; (try clear hb); (try clear hb2); (try clear hk); (try clear hi)) | ((with_reducible refine gate_callee (f := 38) rfl ?_); refine goesL_ (some 13) rfl rfl Try.func38 (by kernel_rfl) rfl #[.int .i64 a1, .int .i64 0, .int .i64 (wrap64 (a2 - 1))] rfl zM ?_; (with_reducible refine (impl_within.calls a1 0 (wrap64 (a2 - 1)) t326 _ A5.out).mono ?_); rintro e w' ⟨rfl, ⟨nd, rfl⟩⟩; refine ⟨_, rfl, ?_⟩) | ((with_reducible refine gate_dst (N := 15) rfl ?_); refine Kd.R_lit k73 _ 73 ?hg (N := 15) ?hd (xs := ([(⟨t325, 1⟩ : S73), (⟨t326, 2⟩ : S73)] : List (S73))) (inner := [.bool t325, .int .i64 1, .bool t326, .int .i64 2]) (ok := fun _ => True) (okp := fun _ => True) ?hr ?hp (fun _ hk => hk) trivial (Below.refl _ _) (Nat.le_refl _) (by simp) ?_; (case hd => rfl); (case hg => rfl); (case hr => first | (go_simp; done) | (go_simp; rfl)); (case hp => exact (Reps.c2 (show Kd.M k73 _ _ _ (⟨t325, 1⟩ : S73) [.bool t325, .int .i64 1] from (k73_mkM _ _ _ (⟨t325, 1⟩ : S73) )) (Reps.c2 (show Kd.M k73 _ _ _ (⟨t326, 2⟩ : S73) [.bool t326, .int .i64 2] from (k73_mkM _ _ _ (⟨t326, 2⟩ : S73) )) (Reps.none _ _)))); intro v328 w10 ho11 hb hg_ hnew_; clear hg_ hnew_; (first | rw [← Ny327.out] at ho11 | (simp only [Int.reduceToNat] at ho11; rw [← Ny327.out] at ho11)); refine zA3 (Kd.R_lower ho11 (below_size (zH1 HB.out GE324.out))) (blk_below (g := gb324) (o := .cells #[.int .i64 a0_0, .int .i64 a0_1, .int .i64 a0_2] 25 (0, 0)) (zB BK324.out) hb) (below_step (zH1 HB.out GE324.out) hb) ?_; clear BK324 HB; intro HO329 BK324 HB; clear hb ho11; obtain ⟨Ao12, co12, eo12⟩ := Kd.R_slice HO329.out; subst eo12) | ((with_reducible refine gate_callee (f := 46) rfl ?_); refine goesL_ (some 16) rfl rfl Try.func46 (by kernel_rfl) rfl #[.slice Ao12 y327.length co12] rfl zM ?_; (with_reducible refine (impl_first.calls k _ _ y327 t330 _ ?side1 ?side2 A6.out).mono ?_); (case side1 => repeat (first | exact (Kd.R_reads' HO329.out).2.2 | (with_reducible refine Kd.C_alloc ?_ _) | (with_reducible refine Kd.C_drewN ?_ _) | (with_reducible refine Kd.C_drew ?_))); (case side2 => exact (Kd.R_reads' HO329.out).2.1); rintro e w13 ⟨rfl, hb⟩; refine ⟨_, rfl, ?_⟩; refine zA3 (Kd.R_below (zR HO329.out) hb) (blk_below (g := gb324) (o := .cells #[.int .i64 a0_0, .int .i64 a0_1, .int .i64 a0_2] 25 (0, 0)) (zB BK324.out) hb) (below_step (zH1 HB.out GE324.out) hb) ?_; clear HO329 BK324 HB; intro HO329 BK324 HB; (try clear hb); (try clear hb2); (try clear hk); (try clear hi)))
  go_ret
  exact ⟨zE, zH1 HB.out GE324.out⟩

end Go.Proofs.Ytelfllbjcpndfaa.Q
