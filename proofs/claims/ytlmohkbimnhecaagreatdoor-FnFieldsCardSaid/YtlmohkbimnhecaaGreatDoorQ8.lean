-- Written by a program of this session (wip/tools/px.sh) over the seat's translation; Lean checks it.
import Derived.Test.YtlmohkbimnhecaaGreatDoorQ0
import Derived.Test.YtlmohkbimnhecaaGreatDoorSq
import Derived.Test.YtlmohkbimnhecaaGreatDoorQ2
import Derived.Test.YtlmohkbimnhecaaGreatDoorQ3
import Derived.Test.YtlmohkbimnhecaaGreatDoorQ4
import Derived.Test.YtlmohkbimnhecaaGreatDoorOutDecimal
import Derived.Test.YtlmohkbimnhecaaGreatDoorOutPoints
namespace Go.Proofs.YtlmohkbimnhecaaGreatDoor.Q
open Go.RowKit Go.Proofs.YtlmohkbimnhecaaGreatDoorW.PrintWords Go.Proofs.YtlmohkbimnhecaaGreatDoorW.PrintLast Go.Proofs.YtlmohkbimnhecaaGreatDoorW.PrintMore
attribute [local go_sem] max2_int min2_int max_two min_two max_three min_three max_four min_four   -- for this text's walks alone
set_option linter.unusedVariables false
set_option linter.unusedSimpArgs false

/-! ### impl_ColourPoint: function 6 -/
mutual
def impl_ColourPoint.j0 : Nat → Int → Int → Int → Int → Int → Int → Int → Int → Option (Int × Int × Int × Int × Int)
  | 0, _, _, _, _, _, _, _, _ => none
  | k + 1, x1, x2, x3, x10, x325000, x325001, x325002, x325003 => if x10 = 0 then ((impl_Field_points.f k x325000 x325001 x325002 x325003 x1 x2).bind fun t333 => ((slices_Contains_int64_int64.f k t333 x3).bind fun t336 => (impl_ColourPoint.j1 k x2 x3 x10 (!t336) x325000 x325001 x325002 x325003))) else (impl_ColourPoint.j1 k x2 x3 x10 false x325000 x325001 x325002 x325003)
def impl_ColourPoint.j1 : Nat → Int → Int → Int → Bool → Int → Int → Int → Int → Option (Int × Int × Int × Int × Int)
  | 0, _, _, _, _, _, _, _, _ => none
  | k + 1, x2, x3, x10, x38, x325000, x325001, x325002, x325003 => if x38 = true then (some (0, 0, 0, 0, 5)) else (if x10 = 0 then ((impl_Field_coloured.f x325000 x325001 x325002 x325003 x2 x3).bind fun bt337 => (some (bt337.1, bt337.2.1, bt337.2.2.1, bt337.2.2.2, 0))) else (some (0, 0, 0, 0, x10)))
end
def impl_ColourPoint.f (k : Nat) (a0_0 : Int) (a0_1 : Int) (a0_2 : Int) (a0_3 : Int) (a1 : Int) (a2 : Int) (a3 : Int) : Option (Int × Int × Int × Int × Int) := (impl_IsField.f a0_0 a0_1 a0_2 a0_3).bind fun t326 => ((impl_within.f a3 0 (wrap64 (a0_0 - 1))).bind fun t327 => ((impl_first.f k (([(⟨t326, 1⟩ : S58), (⟨t327, 2⟩ : S58)] : List (S58)))).bind fun t331 => (if t331 = 0 then ((impl_fieldCode.f k a0_0 a0_1 a0_2 a0_3 a1 a2).bind fun t332 => (impl_ColourPoint.j0 k a1 a2 a3 t332 a0_0 a0_1 a0_2 a0_3)) else (impl_ColourPoint.j0 k a1 a2 a3 t331 a0_0 a0_1 a0_2 a0_3))))
def impl_ColourPoint.T1 : Bool × List (List Nat × List Nat) := (true, [([], []), ([0], [0]), ([1], [1]), ([], []), ([], []), ([4], [4]), ([5], [5]), ([3, 6, 1], [3, 6]), ([7], [7]), ([2, 8], [2, 8]), ([9, 7], [9]), ([10, 10, 0, 1, 2, 3, 4, 5, 6, 7, 8, 9, 10], [10])])
def impl_ColourPoint.B1 : List Nat := [0, 1, 3, 0, 0, 16, 48, 123, 251, 511, 1023, 2047]
theorem impl_ColourPoint.tab1 : rtab .any (opsOf Tryz.f6 1) = impl_ColourPoint.T1 := by kernel_rfl
theorem impl_ColourPoint.bits1 : waitsOk impl_ColourPoint.T1.2 impl_ColourPoint.B1 = true := by kernel_rfl
set_option maxHeartbeats 8000000 in
set_option maxRecDepth 100000 in
theorem impl_ColourPoint.calls (k : Nat) (a0_0 : Int) (a0_1 : Int) (a0_2 : Int) (a0_3 : Int) (a1 : Int) (a2 : Int) (a3 : Int) (r1 : Int) (r2 : Int) (r3 : Int) (r4 : Int) (r5 : Int) (w : World) (h : impl_ColourPoint.f k a0_0 a0_1 a0_2 a0_3 a1 a2 a3 = some (r1, r2, r3, r4, r5)) :
    Calls Tryz.prog 6 #[.agg #[.int .i64 a0_0, .int .i64 a0_1, .int .i64 a0_2, .int .i64 a0_3], .int .i64 a1, .int .i64 a2, .int .i64 a3] w fun e w' => e = .returned (.tuple #[.agg #[.int .i64 r1, .int .i64 r2, .int .i64 r3, .int .i64 r4], .int .i64 r5]) ∧ Below w.heap.size w w' := by
  have hu25 := Tryz.underlying25
  have hu58 := Tryz.underlying58
  have HB := Aside0.mk (Below.refl w.heap.size w)
  have H : ((impl_IsField.f a0_0 a0_1 a0_2 a0_3).bind fun t326 => ((impl_within.f a3 0 (wrap64 (a0_0 - 1))).bind fun t327 => ((impl_first.f k (([(⟨t326, 1⟩ : S58), (⟨t327, 2⟩ : S58)] : List (S58)))).bind fun t331 => (if t331 = 0 then ((impl_fieldCode.f k a0_0 a0_1 a0_2 a0_3 a1 a2).bind fun t332 => (impl_ColourPoint.j0 k a1 a2 a3 t332 a0_0 a0_1 a0_2 a0_3)) else (impl_ColourPoint.j0 k a1 a2 a3 t331 a0_0 a0_1 a0_2 a0_3))))) = some (r1, r2, r3, r4, r5) := h
  clear h
  obtain ⟨t326, A5, H⟩ := zb H
  obtain ⟨t327, A6, H⟩ := zb H
  obtain ⟨y328, hy328⟩ : ∃ y_ : List (S58), y_ = (([(⟨t326, 1⟩ : S58), (⟨t327, 2⟩ : S58)] : List (S58))) := ⟨_, rfl⟩
  replace H : ((impl_first.f k y328).bind fun t331 => (if t331 = 0 then ((impl_fieldCode.f k a0_0 a0_1 a0_2 a0_3 a1 a2).bind fun t332 => (impl_ColourPoint.j0 k a1 a2 a3 t332 a0_0 a0_1 a0_2 a0_3)) else (impl_ColourPoint.j0 k a1 a2 a3 t331 a0_0 a0_1 a0_2 a0_3))) = some (r1, r2, r3, r4, r5) := by first | (rw [hy328]; with_reducible exact H) | (have H2_ := (Option.bind_some _ _).symm.trans H; rw [hy328]; with_reducible exact H2_) | (have H2_ := (Option.bind_some _ _).symm.trans H; with_reducible exact H2_) | with_reducible exact H | (rw [hy328]; exact H) | exact H
  have Ny328 := Aside0.mk hy328
  clear hy328
  obtain ⟨t331, A7, H⟩ := zb H
  have HC8 := Aside0.mk H
  clear H
  go_enter Tryz.func6, Tryz.ntmps6
  try go_wp2_with (first | ((with_reducible refine gate_dst (N := 4) rfl ?_); refine zX 4 #[.int .i64 a0_0, .int .i64 a0_1, .int .i64 a0_2, .int .i64 a0_3] 25 ?_; intro gb324 hg w9 hbox hb; refine zA4 (below_step (zH HB.out) hb) (hbox) ((zS hg (below_size (zH HB.out)) : w.heap.size ≤ gb324)) ((zS hg (below_size (zH HB.out)) : w.heap.size ≤ gb324)) ?_; clear HB; intro HB BK324 GW324 GE324; clear hb hbox hg) | ((with_reducible refine gate_dst (N := 8) rfl ?_); refine zX 8 #[.int .i64 0, .int .i64 0, .int .i64 0, .int .i64 0] 25 ?_; intro gb325 hg w10 hbox hb; refine zA7 (zY BK324.out hb) (below_step (zH1 HB.out GE324.out) hb) (hbox) ((zS hg (below_size (zH1 HB.out GE324.out)) : w.heap.size ≤ gb325)) ((zS hg (below_size (zH1 HB.out GE324.out)) : w.heap.size ≤ gb325)) ((zl hg (blk_lt (g := gb324) (o := .cells #[.int .i64 a0_0, .int .i64 a0_1, .int .i64 a0_2, .int .i64 a0_3] 25 (0, 0)) (zB BK324.out)) : gb324 ≠ gb325)) ((zg hg (blk_lt (g := gb324) (o := .cells #[.int .i64 a0_0, .int .i64 a0_1, .int .i64 a0_2, .int .i64 a0_3] 25 (0, 0)) (zB BK324.out)) : gb325 ≠ gb324)) ?_; clear BK324 HB; intro BK324 HB BK325 GW325 GE325 NB324_325 NB325_324; clear hb hbox hg))
  refine zA3 (blk_drew BK324.out) (blk_drew BK325.out) (below_drew1 HB.out) ?_
  clear BK324 BK325 HB
  intro BK324 BK325 HB
  refine start_ (n := 12) (S := fun w' => w'.cell? ⟨gb324, 0, none⟩ = some (.int .i64 a0_0) ∧ w'.cell? ⟨gb324, 1, none⟩ = some (.int .i64 a0_1) ∧ w'.cell? ⟨gb324, 2, none⟩ = some (.int .i64 a0_2) ∧ w'.cell? ⟨gb324, 3, none⟩ = some (.int .i64 a0_3)) (ds := []) #[false, false, false, false, false, false, false, false, false, false, false, false] (by kernel_rfl) rfl rfl ⟨(blk_cell BK324.out 0).trans rfl, (blk_cell BK324.out 1).trans rfl, (blk_cell BK324.out 2).trans rfl, (blk_cell BK324.out 3).trans rfl⟩ (fun hHeld => ?_); refine with_tabW impl_ColourPoint.tab1 impl_ColourPoint.bits1 (fun HT_ HW_ => ?_)
  generalize w10.drew = w11 at BK324 BK325 HB hHeld ⊢
  refine zP HT_ 3 (some 14) rfl rfl ?_
  refine zP HT_ 4 (some 15) rfl rfl ?_
  refine zT HT_ HW_ hHeld 0 (some 11) rfl rfl ?_
  refine zT HT_ HW_ hHeld 5 (some 16) rfl rfl ?_
  refine zP HT_ 6 (some 17) rfl rfl ?_
  refine one_ (i := 1) (N := some 12) #[true, true, false, true, true, true, true, false, false, false, false, false] rfl rfl (one_of HT_.out (by kernel_rfl)) (by decide) (fun K hK => ?_)
  refine goes_ Tryz.func11 (by kernel_rfl) rfl #[.agg #[.int .i64 a0_0, .int .i64 a0_1, .int .i64 a0_2, .int .i64 a0_3]] (by rfl) rfl rfl zM ?_
  with_reducible refine (impl_IsField.calls a0_0 a0_1 a0_2 a0_3 t326 _ A5.out).mono ?_
  rintro e w12 ⟨rfl, hb⟩
  refine ⟨_, rfl, ?_⟩
  refine zA3 (zY BK324.out hb) (zY BK325.out hb) (below_step (zH2 HB.out GE324.out GE325.out) hb) ?_
  clear BK324 BK325 HB
  intro BK324 BK325 HB
  (try clear hb)
  (try clear hb2)
  (try clear hk)
  (try clear hi)
  refine hK.out _ _ ⟨(blk_cell BK324.out 0).trans rfl, (blk_cell BK324.out 1).trans rfl, (blk_cell BK324.out 2).trans rfl, (blk_cell BK324.out 3).trans rfl⟩ (fun hHeld => ?_)
  clear hK K
  refine zW (some 12) ?_
  refine zP HT_ 2 (some 13) rfl rfl ?_
  refine one_ (i := 7) (N := some 18) #[true, true, true, true, true, true, true, true, false, false, false, false] rfl rfl (one_of HT_.out (by kernel_rfl)) (by decide) (fun K hK => ?_)
  refine goes_ Tryz.func36 (by kernel_rfl) rfl #[.int .i64 a3, .int .i64 0, .int .i64 (wrap64 (a0_0 - 1))] (by rfl) rfl rfl zM ?_
  with_reducible refine (impl_within.calls a3 0 (wrap64 (a0_0 - 1)) t327 _ A6.out).mono ?_
  rintro e w' ⟨rfl, ⟨nd, rfl⟩⟩
  refine ⟨_, rfl, ?_⟩
  refine hK.out _ _ ⟨(blk_cell BK324.out 0).trans rfl, (blk_cell BK324.out 1).trans rfl, (blk_cell BK324.out 2).trans rfl, (blk_cell BK324.out 3).trans rfl⟩ (fun hHeld => ?_)
  clear hK K
  refine zW (some 18) ?_
  refine zP HT_ 8 (some 19) rfl rfl ?_
  refine one_ (i := 9) (N := some 20) #[true, true, true, true, true, true, true, true, true, true, false, false] rfl rfl (one_of HT_.out (by kernel_rfl)) (by decide) (fun K hK => ?_)
  refine Kd.R_lit_step k58 _ 58 ?hg (N := 20) ?hd (xs := ([(⟨t326, 1⟩ : S58), (⟨t327, 2⟩ : S58)] : List (S58))) (inner := [.bool t326, .int .i64 1, .bool t327, .int .i64 2]) (ok := fun _ => True) (okp := fun _ => True) ?hr ?hp (fun _ hk => hk) trivial (Below.refl _ _) (Nat.le_refl _) (by simp) ?_; (case hd => rfl); (case hg => rfl); (case hr => first | (go_simp; done) | (go_simp; rfl)); (case hp => exact (Reps.c2 (show Kd.M k58 _ _ _ (⟨t326, 1⟩ : S58) [.bool t326, .int .i64 1] from (k58_mkM _ _ _ (⟨t326, 1⟩ : S58) )) (Reps.c2 (show Kd.M k58 _ _ _ (⟨t327, 2⟩ : S58) [.bool t327, .int .i64 2] from (k58_mkM _ _ _ (⟨t327, 2⟩ : S58) )) (Reps.none _ _))))
  intro v329 w13 ho14 hb hg_ hnew_
  clear hg_ hnew_
  (first | rw [← Ny328.out] at ho14 | (simp only [Int.reduceToNat] at ho14; rw [← Ny328.out] at ho14))
  refine zA4 (Kd.R_lower ho14 (below_size (zH2 HB.out GE324.out GE325.out))) (zY BK324.out hb) (zY BK325.out hb) (below_step (zH2 HB.out GE324.out GE325.out) hb) ?_
  clear BK324 BK325 HB
  intro HO330 BK324 BK325 HB
  clear hb ho14
  obtain ⟨Ao15, co15, eo15⟩ := Kd.R_slice HO330.out
  (first | subst eo15 | (injection eo15 with f1_ f2_ f3_; have f4_ := f1_.symm; have f5_ := f3_.symm; clear f1_ f2_ f3_; subst f4_; subst f5_))
  refine hK.out _ _ ⟨(blk_cell BK324.out 0).trans rfl, (blk_cell BK324.out 1).trans rfl, (blk_cell BK324.out 2).trans rfl, (blk_cell BK324.out 3).trans rfl⟩ (fun hHeld => ?_)
  clear hK K
  refine zW (some 20) ?_
  refine one_ (i := 10) (N := some 21) #[true, true, true, true, true, true, true, true, true, true, true, false] rfl rfl (one_of HT_.out (by kernel_rfl)) (by decide) (fun K hK => ?_)
  refine goes_ Tryz.func35 (by kernel_rfl) rfl #[.slice Ao15 y328.length co15] (by rfl) rfl rfl zM ?_
  with_reducible refine (impl_first.calls k _ _ y328 t331 _ ?side1 ?side2 A7.out).mono ?_
  (case side1 => repeat (first | exact (Kd.R_reads' HO330.out).2.2 | (with_reducible refine Kd.C_alloc ?_ _) | (with_reducible refine Kd.C_drewN ?_ _) | (with_reducible refine Kd.C_drew ?_)))
  (case side2 => exact (Kd.R_reads' HO330.out).2.1)
  rintro e w16 ⟨rfl, hb⟩
  refine ⟨_, rfl, ?_⟩
  refine zA4 (Kd.R_below (zR HO330.out) hb) (zY BK324.out hb) (zY BK325.out hb) (below_step (zH2 HB.out GE324.out GE325.out) hb) ?_
  clear HO330 BK324 BK325 HB
  intro HO330 BK324 BK325 HB
  (try clear hb)
  (try clear hb2)
  (try clear hk)
  (try clear hi)
  refine hK.out _ _ ⟨(blk_cell BK324.out 0).trans rfl, (blk_cell BK324.out 1).trans rfl, (blk_cell BK324.out 2).trans rfl, (blk_cell BK324.out 3).trans rfl⟩ (fun hHeld => ?_)
  clear hK K
  refine zW (some 21) ?_
  refine zP HT_ 11 (some 10) rfl rfl ?_
  refine done_ (done_of HT_.out (by kernel_rfl)) ?_
  go_upto_if 23 with (fail)
  go_cut [10] (fun v10 wc => ∃ (kq : Nat) (x10_7 : Int), v10 = .int .i64 x10_7 ∧ Aside0 (impl_ColourPoint.j0 kq a1 a2 a3 x10_7 a0_0 a0_1 a0_2 a0_3 = some (r1, r2, r3, r4, r5)) ∧ Aside0 (kq ≤ k) ∧ Aside0 (wc.heap[gb324]? = some (.cells #[.int .i64 a0_0, .int .i64 a0_1, .int .i64 a0_2, .int .i64 a0_3] 25 (0, 0))) ∧ Aside0 (wc.heap[gb325]? = some (.cells #[.int .i64 0, .int .i64 0, .int .i64 0, .int .i64 0] 25 (0, 0))) ∧ Aside0 (Below w.heap.size w wc))
  case first =>
    have H := HC8.out
    clear HC8
    by_cases c17 : t331 = 0
    · rw [if_pos c17] at H
      have c17b0 := zq1 c17
      have c17b1 := zq2 c17
      clear c17
      (first | rw [c17b0] | (simp only [i64_w, i32_w]; rw [c17b0]) | skip)
      obtain ⟨t332, A18, H⟩ := zb H
      have H' := Aside0.mk H
      clear H
      have hnb19 := NB324_325.out
      have hnc19 := NB325_324.out
      obtain ⟨hcz20_0, hcz20_1, hcz20_2, hcz20_3⟩ := zc4 BK324
      obtain ⟨hfz20_0, hfz20_1, hfz20_2, hfz20_3⟩ := zf4 BK324
      go_wp2_with (first | ((with_reducible refine gate_callee (f := 37) rfl ?_); refine goesL_ (some 27) rfl rfl Tryz.func37 (by kernel_rfl) rfl #[.agg #[.int .i64 a0_0, .int .i64 a0_1, .int .i64 a0_2, .int .i64 a0_3], .int .i64 a1, .int .i64 a2] rfl zM ?_; (with_reducible refine (impl_fieldCode.calls k a0_0 a0_1 a0_2 a0_3 a1 a2 t332 _ A18.out).mono ?_); rintro e w21 ⟨rfl, hb⟩; refine ⟨_, rfl, ?_⟩; refine zA4 (Kd.R_below (zR HO330.out) hb) (zY BK324.out hb) (zY BK325.out hb) (below_step (zH2 HB.out GE324.out GE325.out) hb) ?_; clear HO330 BK324 BK325 HB; intro HO330 BK324 BK325 HB; (try clear hb); (try clear hb2); (try clear hk); (try clear hi)))
      go_meet
      case rel => exact ⟨_, (t332), (zF), H', ⟨by first | omega | exact Nat.le_refl _⟩, ⟨zB BK324.out⟩, ⟨zB BK325.out⟩, ⟨zH2 HB.out GE324.out GE325.out⟩⟩
    · rw [if_neg c17] at H
      have c17b0 := zq3 c17
      have c17b1 := zq4 c17
      (first | rw [c17b0] | (simp only [i64_w, i32_w]; rw [c17b0]) | skip)
      have H' := Aside0.mk H
      clear H
      go_wp2
      go_meet
      case rel => exact ⟨_, (t331), (zF), H', ⟨by first | omega | exact Nat.le_refl _⟩, ⟨zB BK324.out⟩, ⟨zB BK325.out⟩, ⟨zH2 HB.out GE324.out GE325.out⟩⟩
  case rest =>
    clear HC8
    try clear c1
    try clear c2
    try clear p2
    try clear c3
    try clear c6
    try clear p6
    try clear c11
    try clear c17
    try clear c17b0
    try clear c17b1
    try clear c19
    try clear hcz20_0
    try clear hcz20_1
    try clear hcz20_2
    try clear hcz20_3
    try clear hfz20_0
    try clear hfz20_1
    try clear hfz20_2
    try clear hfz20_3
    obtain ⟨kq, x10_7, rfl, HA, HJ7, BK324, BK325, HB⟩ := hcut
    cases kq with
    | zero => exact absurd HA.out (by simp [impl_ColourPoint.j0])
    | succ kj7 =>
      have H := HA.out
      clear HA
      simp only [impl_ColourPoint.j0] at H
      have HC22 := Aside0.mk H
      clear H
      go_upto_region 4 with (fail)
      go_cut [38] (fun v38 wc => ∃ (kq : Nat) (x38_21 : Bool), v38 = .bool x38_21 ∧ Aside0 (impl_ColourPoint.j1 kq a2 a3 x10_7 x38_21 a0_0 a0_1 a0_2 a0_3 = some (r1, r2, r3, r4, r5)) ∧ Aside0 (kq ≤ kj7) ∧ Aside0 (wc.heap[gb324]? = some (.cells #[.int .i64 a0_0, .int .i64 a0_1, .int .i64 a0_2, .int .i64 a0_3] 25 (0, 0))) ∧ Aside0 (wc.heap[gb325]? = some (.cells #[.int .i64 0, .int .i64 0, .int .i64 0, .int .i64 0] 25 (0, 0))) ∧ Aside0 (Below w.heap.size w wc))
      case first =>
        have H := HC22.out
        clear HC22
        by_cases c23 : x10_7 = 0
        · rw [if_pos c23] at H
          have c23b0 := zq1 c23
          have c23b1 := zq2 c23
          clear c23
          (first | rw [c23b0] | (simp only [i64_w, i32_w]; rw [c23b0]) | skip)
          obtain ⟨t333, A24, H⟩ := zb H
          obtain ⟨t336, A25, H⟩ := zb H
          have H' := Aside0.mk H
          clear H
          have hnb26 := NB324_325.out
          have hnc26 := NB325_324.out
          obtain ⟨hcz27_0, hcz27_1, hcz27_2, hcz27_3⟩ := zc4 BK324
          obtain ⟨hfz27_0, hfz27_1, hfz27_2, hfz27_3⟩ := zf4 BK324
          go_wp2_with (first | (go_at_call 39; (with_reducible refine (impl_Field_points.calls kj7 a0_0 a0_1 a0_2 a0_3 a1 a2 t333 _ A24.out).mono ?_); rintro e w28 ⟨v334, rfl, ho0, hb⟩; refine zA4 (Kd.R_lower ho0 (below_size (zH2 HB.out GE324.out GE325.out))) (zY BK324.out hb) (zY BK325.out hb) (below_step (zH2 HB.out GE324.out GE325.out) hb) ?_; clear BK324 BK325 HB; intro HO335 BK324 BK325 HB; (try clear hb); (try clear hb2); (try clear hk); (try clear hi); (try clear ho0); obtain ⟨Ao29, co29, eo29⟩ := Kd.R_slice HO335.out; subst eo29) | (go_at_call 38; (with_reducible refine (slices_Contains_int64_int64.calls kj7 _ _ t333 a3 t336 _ ?side1 ?side2 A25.out).mono ?_); (case side1 => repeat (first | exact (Kd.R_reads' HO335.out).2.2 | (with_reducible refine Kd.C_alloc ?_ _) | (with_reducible refine Kd.C_drewN ?_ _) | (with_reducible refine Kd.C_drew ?_))); (case side2 => exact (Kd.R_reads' HO335.out).2.1); rintro e w' ⟨rfl, ⟨nd, rfl⟩⟩))
          go_meet
          case rel => exact ⟨_, (!t336), (zF), H', ⟨by have := HJ7.out; first | omega | exact Nat.le_refl _⟩, ⟨zB BK324.out⟩, ⟨zB BK325.out⟩, ⟨zH2 HB.out GE324.out GE325.out⟩⟩
        · rw [if_neg c23] at H
          have c23b0 := zq3 c23
          have c23b1 := zq4 c23
          (first | rw [c23b0] | (simp only [i64_w, i32_w]; rw [c23b0]) | skip)
          have H' := Aside0.mk H
          clear H
          go_wp2
          go_meet
          case rel => exact ⟨_, (false), (zF), H', ⟨by have := HJ7.out; first | omega | exact Nat.le_refl _⟩, ⟨zB BK324.out⟩, ⟨zB BK325.out⟩, ⟨zH2 HB.out GE324.out GE325.out⟩⟩
      case rest =>
        clear HC22
        try clear c1
        try clear c2
        try clear p2
        try clear c3
        try clear c6
        try clear p6
        try clear c11
        try clear c17
        try clear c17b0
        try clear c17b1
        try clear c19
        try clear c23
        try clear c23b0
        try clear c23b1
        try clear c26
        try clear hcz20_0
        try clear hcz20_1
        try clear hcz20_2
        try clear hcz20_3
        try clear hcz27_0
        try clear hcz27_1
        try clear hcz27_2
        try clear hcz27_3
        try clear hfz20_0
        try clear hfz20_1
        try clear hfz20_2
        try clear hfz20_3
        try clear hfz27_0
        try clear hfz27_1
        try clear hfz27_2
        try clear hfz27_3
        try clear p2
        try clear p6
        obtain ⟨kq, x38_21, rfl, HA, HJ21, BK324, BK325, HB⟩ := hcut
        cases kq with
        | zero => exact absurd HA.out (by simp [impl_ColourPoint.j1])
        | succ kj21 =>
          have H := HA.out
          clear HA
          simp only [impl_ColourPoint.j1] at H
          by_cases c30 : x38_21 = true
          · subst c30
            have H1 : (some (0, 0, 0, 0, 5)) = some (r1, r2, r3, r4, r5) := by rw [if_pos rfl] at H; exact H
            clear H
            have H := H1
            clear H1
            simp only [Option.some.injEq, Prod.mk.injEq] at H
            obtain ⟨rfl, rfl, rfl, rfl, rfl⟩ := H
            have hnb31 := NB325_324.out
            have hnc31 := NB324_325.out
            obtain ⟨hcz32_0, hcz32_1, hcz32_2, hcz32_3⟩ := zc4 BK325
            obtain ⟨hfz32_0, hfz32_1, hfz32_2, hfz32_3⟩ := zf4 BK325
            go_wp2
            refine bodyPost_ret (results_ct rfl _ _ gb325 25 #[.int .i64 0, .int .i64 0, .int .i64 0, .int .i64 0] (0, 0) _ rfl (zQ BK325.out) Tryz.underlying25 rfl (by kernel_rfl)) rfl ?_
            exact ⟨zE, zH2 HB.out GE324.out GE325.out⟩
          · replace c30 := Bool.eq_false_iff.mpr c30
            subst c30
            have H1 : (if x10_7 = 0 then ((impl_Field_coloured.f a0_0 a0_1 a0_2 a0_3 a2 a3).bind fun bt337 => (some (bt337.1, bt337.2.1, bt337.2.2.1, bt337.2.2.2, 0))) else (some (0, 0, 0, 0, x10_7))) = some (r1, r2, r3, r4, r5) := by rw [if_neg (show ¬ (false = true) by decide)] at H; exact H
            clear H
            have H := H1
            clear H1
            by_cases c33 : x10_7 = 0
            · rw [if_pos c33] at H
              have c33b0 := zq1 c33
              have c33b1 := zq2 c33
              clear c33
              obtain ⟨⟨t337, t338, t339, t340⟩, A34, H⟩ := zb H; (try dsimp only at H)
              simp only [Option.some.injEq, Prod.mk.injEq] at H
              obtain ⟨rfl, rfl, rfl, rfl, rfl⟩ := H
              have hnb35 := NB324_325.out
              have hnc35 := NB325_324.out
              obtain ⟨hcz36_0, hcz36_1, hcz36_2, hcz36_3⟩ := zc4 BK324
              obtain ⟨hfz36_0, hfz36_1, hfz36_2, hfz36_3⟩ := zf4 BK324
              go_wp2_with (first | ((with_reducible refine gate_callee (f := 40) rfl ?_); refine goesL_ (some 46) rfl rfl Tryz.func40 (by kernel_rfl) rfl #[.agg #[.int .i64 a0_0, .int .i64 a0_1, .int .i64 a0_2, .int .i64 a0_3], .int .i64 a2, .int .i64 a3] rfl zM ?_; (with_reducible refine (impl_Field_coloured.calls a0_0 a0_1 a0_2 a0_3 a2 a3 t337 t338 t339 t340 _ A34.out).mono ?_); rintro e w37 ⟨rfl, hb⟩; refine ⟨_, rfl, ?_⟩; refine zA3 (zY BK324.out hb) (zY BK325.out hb) (below_step (zH2 HB.out GE324.out GE325.out) hb) ?_; clear BK324 BK325 HB; intro BK324 BK325 HB; (try clear hb); (try clear hb2); (try clear hk); (try clear hi); obtain ⟨hcz38_0, hcz38_1, hcz38_2, hcz38_3⟩ := zc4 BK325; obtain ⟨hfz38_0, hfz38_1, hfz38_2, hfz38_3⟩ := zf4 BK325))
              refine bodyPost_ret (results_ct rfl _ _ gb325 25 #[.int .i64 t337, .int .i64 t338, .int .i64 t339, .int .i64 t340] (0, 0) _ rfl (zQ BK325.out) Tryz.underlying25 rfl (by kernel_rfl)) rfl ?_
              exact ⟨zE, zH2 HB.out GE324.out GE325.out⟩
            · rw [if_neg c33] at H
              have c33b0 := zq3 c33
              have c33b1 := zq4 c33
              simp only [Option.some.injEq, Prod.mk.injEq] at H
              obtain ⟨rfl, rfl, rfl, rfl, rfl⟩ := H
              have hnb39 := NB325_324.out
              have hnc39 := NB324_325.out
              obtain ⟨hcz40_0, hcz40_1, hcz40_2, hcz40_3⟩ := zc4 BK325
              obtain ⟨hfz40_0, hfz40_1, hfz40_2, hfz40_3⟩ := zf4 BK325
              go_wp2
              refine bodyPost_ret (results_ct rfl _ _ gb325 25 #[.int .i64 0, .int .i64 0, .int .i64 0, .int .i64 0] (0, 0) _ rfl (zQ BK325.out) Tryz.underlying25 rfl (by kernel_rfl)) rfl ?_
              exact ⟨zE, zH2 HB.out GE324.out GE325.out⟩

/-! ### impl_PointsFor: function 8 -/
def impl_PointsFor.f (k : Nat) (a0_0 : Int) (a0_1 : Int) (a0_2 : Int) (a0_3 : Int) (a1 : Int) (a2 : Int) : Option (List Int × Int) := (impl_fieldCode.f k a0_0 a0_1 a0_2 a0_3 a1 a2).bind fun t364 => (if t364 = 0 then ((impl_Field_points.f k a0_0 a0_1 a0_2 a0_3 a1 a2).bind fun t365 => (some (t365, 0))) else (some (([] : List Int), t364)))
set_option maxHeartbeats 8000000 in
set_option maxRecDepth 100000 in
theorem impl_PointsFor.calls (k : Nat) (a0_0 : Int) (a0_1 : Int) (a0_2 : Int) (a0_3 : Int) (a1 : Int) (a2 : Int) (r1 : List Int) (r2 : Int) (w : World) (h : impl_PointsFor.f k a0_0 a0_1 a0_2 a0_3 a1 a2 = some (r1, r2)) :
    Calls Tryz.prog 8 #[.agg #[.int .i64 a0_0, .int .i64 a0_1, .int .i64 a0_2, .int .i64 a0_3], .int .i64 a1, .int .i64 a2] w fun e w' => ∃ v0_ : Value, e = .returned (.tuple #[v0_, .int .i64 r2]) ∧ Kd.R (Kd.int .i64) 2 w' w.heap.size (fun _ => True) v0_ r1 ∧ Below w.heap.size w w' := by
  have hu25 := Tryz.underlying25
  have HB := Aside0.mk (Below.refl w.heap.size w)
  have H : ((impl_fieldCode.f k a0_0 a0_1 a0_2 a0_3 a1 a2).bind fun t364 => (if t364 = 0 then ((impl_Field_points.f k a0_0 a0_1 a0_2 a0_3 a1 a2).bind fun t365 => (some (t365, 0))) else (some (([] : List Int), t364)))) = some (r1, r2) := h
  clear h
  obtain ⟨t364, A4, H⟩ := zb H
  by_cases c5 : t364 = 0
  · rw [if_pos c5] at H
    have c5b0 := zq1 c5
    have c5b1 := zq2 c5
    clear c5
    obtain ⟨t365, A6, H⟩ := zb H
    simp only [Option.some.injEq, Prod.mk.injEq] at H
    obtain ⟨rfl, rfl⟩ := H
    go_enter Tryz.func8, Tryz.ntmps8
    go_wp2_with (first | ((with_reducible refine gate_dst (N := 3) rfl ?_); refine zX 3 #[.int .i64 a0_0, .int .i64 a0_1, .int .i64 a0_2, .int .i64 a0_3] 25 ?_; intro gb363 hg w7 hbox hb; refine zA4 (below_step (zH HB.out) hb) (hbox) ((zS hg (below_size (zH HB.out)) : w.heap.size ≤ gb363)) ((zS hg (below_size (zH HB.out)) : w.heap.size ≤ gb363)) ?_; clear HB; intro HB BK363 GW363 GE363; clear hb hbox hg; obtain ⟨hcz8_0, hcz8_1, hcz8_2, hcz8_3⟩ := zc4 BK363; obtain ⟨hfz8_0, hfz8_1, hfz8_2, hfz8_3⟩ := zf4 BK363) | ((with_reducible refine gate_callee (f := 37) rfl ?_); refine goesL_ (some 12) rfl rfl Tryz.func37 (by kernel_rfl) rfl #[.agg #[.int .i64 a0_0, .int .i64 a0_1, .int .i64 a0_2, .int .i64 a0_3], .int .i64 a1, .int .i64 a2] rfl zM ?_; (with_reducible refine (impl_fieldCode.calls k a0_0 a0_1 a0_2 a0_3 a1 a2 t364 _ A4.out).mono ?_); rintro e w9 ⟨rfl, hb⟩; refine ⟨_, rfl, ?_⟩; refine zA2 (zY BK363.out hb) (below_step (zH1 HB.out GE363.out) hb) ?_; clear BK363 HB; intro BK363 HB; (try clear hb); (try clear hb2); (try clear hk); (try clear hi); obtain ⟨hcz10_0, hcz10_1, hcz10_2, hcz10_3⟩ := zc4 BK363; obtain ⟨hfz10_0, hfz10_1, hfz10_2, hfz10_3⟩ := zf4 BK363) | ((with_reducible refine gate_callee (f := 39) rfl ?_); refine goesL_ (some 19) rfl rfl Tryz.func39 (by kernel_rfl) rfl #[.agg #[.int .i64 a0_0, .int .i64 a0_1, .int .i64 a0_2, .int .i64 a0_3], .int .i64 a1, .int .i64 a2] rfl zM ?_; (with_reducible refine (impl_Field_points.calls k a0_0 a0_1 a0_2 a0_3 a1 a2 t365 _ A6.out).mono ?_); rintro e w11 ⟨v366, rfl, ho0, hb⟩; refine ⟨_, rfl, ?_⟩; refine zA3 (Kd.R_lower ho0 (below_size (zH1 HB.out GE363.out))) (zY BK363.out hb) (below_step (zH1 HB.out GE363.out) hb) ?_; clear BK363 HB; intro HO367 BK363 HB; (try clear hb); (try clear hb2); (try clear hk); (try clear hi); (try clear ho0)))
    go_ret2
    exact ⟨_, zE, by (with_reducible repeat (first | apply Kd.R_alloc | apply Kd.R_drewN | apply Kd.R_drew)); exact HO367.out, zH1 HB.out GE363.out⟩
  · rw [if_neg c5] at H
    have c5b0 := zq3 c5
    have c5b1 := zq4 c5
    simp only [Option.some.injEq, Prod.mk.injEq] at H
    obtain ⟨rfl, rfl⟩ := H
    go_enter Tryz.func8, Tryz.ntmps8
    go_wp2_with (first | ((with_reducible refine gate_dst (N := 3) rfl ?_); refine zX 3 #[.int .i64 a0_0, .int .i64 a0_1, .int .i64 a0_2, .int .i64 a0_3] 25 ?_; intro gb363 hg w12 hbox hb; refine zA4 (below_step (zH HB.out) hb) (hbox) ((zS hg (below_size (zH HB.out)) : w.heap.size ≤ gb363)) ((zS hg (below_size (zH HB.out)) : w.heap.size ≤ gb363)) ?_; clear HB; intro HB BK363 GW363 GE363; clear hb hbox hg; obtain ⟨hcz13_0, hcz13_1, hcz13_2, hcz13_3⟩ := zc4 BK363; obtain ⟨hfz13_0, hfz13_1, hfz13_2, hfz13_3⟩ := zf4 BK363) | ((with_reducible refine gate_callee (f := 37) rfl ?_); refine goesL_ (some 12) rfl rfl Tryz.func37 (by kernel_rfl) rfl #[.agg #[.int .i64 a0_0, .int .i64 a0_1, .int .i64 a0_2, .int .i64 a0_3], .int .i64 a1, .int .i64 a2] rfl zM ?_; (with_reducible refine (impl_fieldCode.calls k a0_0 a0_1 a0_2 a0_3 a1 a2 t364 _ A4.out).mono ?_); rintro e w14 ⟨rfl, hb⟩; refine ⟨_, rfl, ?_⟩; refine zA2 (zY BK363.out hb) (below_step (zH1 HB.out GE363.out) hb) ?_; clear BK363 HB; intro BK363 HB; (try clear hb); (try clear hb2); (try clear hk); (try clear hi)))
    go_ret2
    exact ⟨_, zE, by first | exact Kd.R_nil _ _ _ _ _ | exact Kd.N_nil _ _ _ _ _ | exact Kd.V_nil _ _ _ _ _ | exact Kd.Q_nil _ _ _ _ _ | exact Kd.S_nil _ _ _ _ _, zH1 HB.out GE363.out⟩

/-! ### impl_FieldText: function 14 -/
mutual
def impl_FieldText.l0 : Nat → ByteArray → Int → Int → Int → Int → Int → Int → Option (ByteArray × Int)
  | 0, _, _, _, _, _, _, _ => none
  | k + 1, x4, x12, x13, x386000, x386001, x386002, x386003 => if x13 < x12 then ((impl_Field_colour.f x386000 x386001 x386002 x386003 x13).bind fun t387 => (if 0 ≤ t387 then (if t387 < 3 then (if x4.size + (Go.Utf8.encode (bt (⟨#[46, 114, 98]⟩ : ByteArray) t387)).size ≤ 9223372036854775807 then (impl_FieldText.l0 k (x4 ++ (Go.Utf8.encode (bt (⟨#[46, 114, 98]⟩ : ByteArray) t387))) x12 (wrap64 (x13 + 1)) x386000 x386001 x386002 x386003) else (none)) else (none)) else (none))) else (impl_FieldText.l1 k x4 1 x386000 x386001 x386002 x386003)
def impl_FieldText.l1 : Nat → ByteArray → Int → Int → Int → Int → Int → Option (ByteArray × Int)
  | 0, _, _, _, _, _, _ => none
  | k + 1, x4, x6, x386000, x386001, x386002, x386003 => if x6 < x386000 then (if x4.size + 1 ≤ 9223372036854775807 then (impl_FieldText.l2 k (x4 ++ (⟨#[44]⟩ : ByteArray)) x6 x6 0 x386000 x386001 x386002 x386003) else (none)) else (some (x4, 0))
def impl_FieldText.l2 : Nat → ByteArray → Int → Int → Int → Int → Int → Int → Int → Option (ByteArray × Int)
  | 0, _, _, _, _, _, _, _, _ => none
  | k + 1, x4, x6, x32, x33, x386000, x386001, x386002, x386003 => if x33 < x32 then ((impl_Field_joins.f x386000 x386001 x386002 x386003 x33 x6).bind fun t388 => ((impl_bit.f t388).bind fun t389 => ((impl_decimal.f t389).bind fun t390 => (if x4.size + t390.size ≤ 9223372036854775807 then (impl_FieldText.l2 k (x4 ++ t390) x6 x32 (wrap64 (x33 + 1)) x386000 x386001 x386002 x386003) else (none))))) else (impl_FieldText.l1 k x4 (wrap64 (x6 + 1)) x386000 x386001 x386002 x386003)
end
def impl_FieldText.f (k : Nat) (a0_0 : Int) (a0_1 : Int) (a0_2 : Int) (a0_3 : Int) : Option (ByteArray × Int) := (impl_IsField.f a0_0 a0_1 a0_2 a0_3).bind fun t386 => (if t386 = true then (impl_FieldText.l0 k (⟨#[]⟩ : ByteArray) a0_0 0 a0_0 a0_1 a0_2 a0_3) else (some ((⟨#[]⟩ : ByteArray), 1)))
theorem impl_FieldText.mono_l : ∀ k, (∀ y0 y1 y2 y3 y4 y5 y6, LeO (impl_FieldText.l0 k y0 y1 y2 y3 y4 y5 y6) (impl_FieldText.l0 (k + 1) y0 y1 y2 y3 y4 y5 y6)) ∧ (∀ y0 y1 y2 y3 y4 y5, LeO (impl_FieldText.l1 k y0 y1 y2 y3 y4 y5) (impl_FieldText.l1 (k + 1) y0 y1 y2 y3 y4 y5)) ∧ (∀ y0 y1 y2 y3 y4 y5 y6 y7, LeO (impl_FieldText.l2 k y0 y1 y2 y3 y4 y5 y6 y7) (impl_FieldText.l2 (k + 1) y0 y1 y2 y3 y4 y5 y6 y7))
  | 0 => ⟨fun _ _ _ _ _ _ _ r h => by simp [impl_FieldText.l0] at h, fun _ _ _ _ _ _ r h => by simp [impl_FieldText.l1] at h, fun _ _ _ _ _ _ _ _ r h => by simp [impl_FieldText.l2] at h⟩
  | k + 1 => by
    obtain ⟨ih0, ih1, ih2⟩ := impl_FieldText.mono_l k
    refine ⟨?_, ?_, ?_⟩
    · intro y0 y1 y2 y3 y4 y5 y6
      unfold impl_FieldText.l0
      exact zO
    · intro y0 y1 y2 y3 y4 y5
      unfold impl_FieldText.l1
      exact zO
    · intro y0 y1 y2 y3 y4 y5 y6 y7
      unfold impl_FieldText.l2
      exact zO
theorem impl_FieldText.mono : ∀ a0 a1 a2 a3 k, LeO (impl_FieldText.f k a0 a1 a2 a3) (impl_FieldText.f (k + 1) a0 a1 a2 a3) := by
  intro a0 a1 a2 a3 k
  obtain ⟨ih0, ih1, ih2⟩ := impl_FieldText.mono_l k
  unfold impl_FieldText.f
  exact zO
set_option maxHeartbeats 8000000 in
set_option maxRecDepth 100000 in
theorem impl_FieldText.calls (k : Nat) (a0_0 : Int) (a0_1 : Int) (a0_2 : Int) (a0_3 : Int) (r1 : ByteArray) (r2 : Int) (w : World) (h : impl_FieldText.f k a0_0 a0_1 a0_2 a0_3 = some (r1, r2)) :
    Calls Tryz.prog 14 #[.agg #[.int .i64 a0_0, .int .i64 a0_1, .int .i64 a0_2, .int .i64 a0_3]] w fun e w' => e = .returned (.tuple #[.string r1, .int .i64 r2]) ∧ Below w.heap.size w w' := by
  have hu25 := Tryz.underlying25
  have HB := Aside0.mk (Below.refl w.heap.size w)
  have H : ((impl_IsField.f a0_0 a0_1 a0_2 a0_3).bind fun t386 => (if t386 = true then (impl_FieldText.l0 k (⟨#[]⟩ : ByteArray) a0_0 0 a0_0 a0_1 a0_2 a0_3) else (some ((⟨#[]⟩ : ByteArray), 1)))) = some (r1, r2) := h
  clear h
  obtain ⟨t386, A2, H⟩ := zb H
  by_cases c3 : t386 = true
  · subst c3
    have H1 : (impl_FieldText.l0 k (⟨#[]⟩ : ByteArray) a0_0 0 a0_0 a0_1 a0_2 a0_3) = some (r1, r2) := by rw [if_pos rfl] at H; exact H
    clear H
    have H := H1
    clear H1
    have H' := Aside0.mk H
    clear H
    go_enter Tryz.func14, Tryz.ntmps14
    go_wp2_with (first | ((with_reducible refine gate_dst (N := 1) rfl ?_); refine zX 1 #[.int .i64 a0_0, .int .i64 a0_1, .int .i64 a0_2, .int .i64 a0_3] 25 ?_; intro gb385 hg w4 hbox hb; refine zA4 (below_step (zH HB.out) hb) (hbox) ((zS hg (below_size (zH HB.out)) : w.heap.size ≤ gb385)) ((zS hg (below_size (zH HB.out)) : w.heap.size ≤ gb385)) ?_; clear HB; intro HB BK385 GW385 GE385; clear hb hbox hg; obtain ⟨hcz5_0, hcz5_1, hcz5_2, hcz5_3⟩ := zc4 BK385; obtain ⟨hfz5_0, hfz5_1, hfz5_2, hfz5_3⟩ := zf4 BK385) | ((with_reducible refine gate_callee (f := 11) rfl ?_); refine goesL_ (some 9) rfl rfl Tryz.func11 (by kernel_rfl) rfl #[.agg #[.int .i64 a0_0, .int .i64 a0_1, .int .i64 a0_2, .int .i64 a0_3]] rfl zM ?_; (with_reducible refine (impl_IsField.calls a0_0 a0_1 a0_2 a0_3 true _ A2.out).mono ?_); rintro e w6 ⟨rfl, hb⟩; refine ⟨_, rfl, ?_⟩; refine zA2 (zY BK385.out hb) (below_step (zH1 HB.out GE385.out) hb) ?_; clear BK385 HB; intro BK385 HB; (try clear hb); (try clear hb2); (try clear hk); (try clear hi); obtain ⟨hcz7_0, hcz7_1, hcz7_2, hcz7_3⟩ := zc4 BK385; obtain ⟨hfz7_0, hfz7_1, hfz7_2, hfz7_3⟩ := zf4 BK385))
    go_loopg [4, 13] k (fun kq v4 v13 w' => ∃ (x4_1 : ByteArray) (x13_1 : Int), v4 = .string x4_1 ∧ v13 = .int .i64 x13_1 ∧ Aside0 (impl_FieldText.l0 kq x4_1 a0_0 x13_1 a0_0 a0_1 a0_2 a0_3 = some (r1, r2)) ∧ Aside0 (kq ≤ k) ∧ Aside0 (w'.heap[gb385]? = some (.cells #[.int .i64 a0_0, .int .i64 a0_1, .int .i64 a0_2, .int .i64 a0_3] 25 (0, 0))) ∧ Aside0 (Below w.heap.size w w'))
    case atStart => exact ⟨((⟨#[]⟩ : ByteArray)), (0), (zF), (zF), H', ⟨Nat.le_refl _⟩, ⟨zB BK385.out⟩, ⟨zH1 HB.out GE385.out⟩⟩
    case round =>
      clear H'
      try clear c1
      try clear p2
      try clear c3
      try clear hcz5_0
      try clear hcz5_1
      try clear hcz5_2
      try clear hcz5_3
      try clear hcz7_0
      try clear hcz7_1
      try clear hcz7_2
      try clear hcz7_3
      try clear hfz5_0
      try clear hfz5_1
      try clear hfz5_2
      try clear hfz5_3
      try clear hfz7_0
      try clear hfz7_1
      try clear hfz7_2
      try clear hfz7_3
      obtain ⟨x4_1, x13_1, rfl, rfl, HA, HK1, BK385, HB⟩ := hrel
      cases gk with
      | zero => exact absurd HA.out (by simp [impl_FieldText.l0])
      | succ k1 =>
        have H := HA.out
        clear HA
        simp only [impl_FieldText.l0] at H
        by_cases c8 : x13_1 < a0_0
        · rw [if_pos c8] at H
          have c8b0 := decide_eq_true c8
          clear c8
          obtain ⟨t387, A9, H⟩ := zb H
          by_cases c10 : 0 ≤ t387
          · rw [if_pos c10] at H
            have c10b0 := decide_eq_true c10
            clear c10
            by_cases c11 : t387 < 3
            · rw [if_pos c11] at H
              have c11b0 := decide_eq_true c11
              clear c11
              by_cases c13 : x4_1.size + (Go.Utf8.encode (bt (⟨#[46, 114, 98]⟩ : ByteArray) t387)).size ≤ 9223372036854775807
              · rw [if_pos c13] at H
                have c13b0 := eq_true c13
                have c13b1 := decide_eq_true c13
                try have c13b2 : (9223372036854775807 < x4_1.size + (Go.Utf8.encode (bt (⟨#[46, 114, 98]⟩ : ByteArray) t387)).size) = False := eq_false (Nat.not_lt.2 c13)
                have H' := Aside0.mk H
                clear H
                obtain ⟨hcz14_0, hcz14_1, hcz14_2, hcz14_3⟩ := zc4 BK385
                obtain ⟨hfz14_0, hfz14_1, hfz14_2, hfz14_3⟩ := zf4 BK385
                go_wp2_with (first | ((with_reducible refine gate_callee (f := 50) rfl ?_); refine goesL_ (some 19) rfl rfl Tryz.func50 (by kernel_rfl) rfl #[.agg #[.int .i64 a0_0, .int .i64 a0_1, .int .i64 a0_2, .int .i64 a0_3], .int .i64 x13_1] rfl zM ?_; (with_reducible refine (impl_Field_colour.calls a0_0 a0_1 a0_2 a0_3 x13_1 t387 _ A9.out).mono ?_); rintro e w15 ⟨rfl, hb⟩; refine ⟨_, rfl, ?_⟩; refine zA2 (zY BK385.out hb) (below_step (zH1 HB.out GE385.out) hb) ?_; clear BK385 HB; intro BK385 HB; (try clear hb); (try clear hb2); (try clear hk); (try clear hi); have p12 : 0 ≤ (t387 : Int) := of_decide_eq_true (by first | (with_reducible assumption) | assumption); have q12 : t387 < (3 : Int) := of_decide_eq_true (by first | (with_reducible assumption) | assumption); have hx12 := bt_at (⟨#[46, 114, 98]⟩ : ByteArray) t387; replace p12 := eq_true p12; replace q12 := eq_true q12))
                go_roundg k1
                case measure => have := HK1.out; omega
                case rel => exact ⟨(x4_1 ++ (Go.Utf8.encode (bt (⟨#[46, 114, 98]⟩ : ByteArray) t387))), (wrap64 (x13_1 + 1)), (zF), (zF), H', ⟨by have := HK1.out; omega⟩, ⟨zB BK385.out⟩, ⟨zH1 HB.out GE385.out⟩⟩
              · rw [if_neg c13] at H
                exact absurd H (by simp)
            · rw [if_neg c11] at H
              exact absurd H (by simp)
          · rw [if_neg c10] at H
            exact absurd H (by simp)
        · rw [if_neg c8] at H
          have c8b0 := decide_eq_false c8
          clear c8
          have H' := Aside0.mk H
          clear H
          go_wp2
          go_loopg [4, 6] k1 (fun kq v4 v6 w' => ∃ (x4_2 : ByteArray) (x6_2 : Int), v4 = .string x4_2 ∧ v6 = .int .i64 x6_2 ∧ Aside0 (impl_FieldText.l1 kq x4_2 x6_2 a0_0 a0_1 a0_2 a0_3 = some (r1, r2)) ∧ Aside0 (kq ≤ k1) ∧ Aside0 (w'.heap[gb385]? = some (.cells #[.int .i64 a0_0, .int .i64 a0_1, .int .i64 a0_2, .int .i64 a0_3] 25 (0, 0))) ∧ Aside0 (Below w.heap.size w w'))
          case atStart => exact ⟨(x4_1), (1), (zF), (zF), H', ⟨Nat.le_refl _⟩, ⟨zB BK385.out⟩, ⟨zH1 HB.out GE385.out⟩⟩
          case round =>
            clear H'
            try clear c1
            try clear p1
            try clear q1
            try clear hx1
            try clear p2
            try clear c3
            try clear c5
            try clear p6
            try clear c8
            try clear c8b0
            try clear c10
            try clear c10b0
            try clear c11
            try clear c11b0
            try clear p12
            try clear q12
            try clear hx12
            try clear c13
            try clear c13b0
            try clear c13b1
            try clear c13b2
            try clear c14
            try clear hcz14_0
            try clear hcz14_1
            try clear hcz14_2
            try clear hcz14_3
            try clear hcz5_0
            try clear hcz5_1
            try clear hcz5_2
            try clear hcz5_3
            try clear hcz7_0
            try clear hcz7_1
            try clear hcz7_2
            try clear hcz7_3
            try clear hfz14_0
            try clear hfz14_1
            try clear hfz14_2
            try clear hfz14_3
            try clear hfz5_0
            try clear hfz5_1
            try clear hfz5_2
            try clear hfz5_3
            try clear hfz7_0
            try clear hfz7_1
            try clear hfz7_2
            try clear hfz7_3
            try clear p12
            try clear p2
            try clear q12
            obtain ⟨x4_2, x6_2, rfl, rfl, HA, HK2, BK385, HB⟩ := hrel
            cases gk with
            | zero => exact absurd HA.out (by simp [impl_FieldText.l1])
            | succ k2 =>
              have H := HA.out
              clear HA
              simp only [impl_FieldText.l1] at H
              by_cases c16 : x6_2 < a0_0
              · rw [if_pos c16] at H
                have c16b0 := decide_eq_true c16
                clear c16
                by_cases c17 : x4_2.size + 1 ≤ 9223372036854775807
                · rw [if_pos c17] at H
                  have c17b0 := eq_true c17
                  have c17b1 := decide_eq_true c17
                  try have c17b2 : (9223372036854775807 < x4_2.size + 1) = False := eq_false (Nat.not_lt.2 c17)
                  have H' := Aside0.mk H
                  clear H
                  obtain ⟨hcz18_0, hcz18_1, hcz18_2, hcz18_3⟩ := zc4 BK385
                  obtain ⟨hfz18_0, hfz18_1, hfz18_2, hfz18_3⟩ := zf4 BK385
                  go_wp2
                  go_loopg [4, 33] k2 (fun kq v4 v33 w' => ∃ (x4_3 : ByteArray) (x33_3 : Int), v4 = .string x4_3 ∧ v33 = .int .i64 x33_3 ∧ Aside0 (impl_FieldText.l2 kq x4_3 x6_2 x6_2 x33_3 a0_0 a0_1 a0_2 a0_3 = some (r1, r2)) ∧ Aside0 (kq ≤ k2) ∧ Aside0 (w'.heap[gb385]? = some (.cells #[.int .i64 a0_0, .int .i64 a0_1, .int .i64 a0_2, .int .i64 a0_3] 25 (0, 0))) ∧ Aside0 (Below w.heap.size w w'))
                  case atStart => exact ⟨(x4_2 ++ (⟨#[44]⟩ : ByteArray)), (0), (zF), (zF), H', ⟨Nat.le_refl _⟩, ⟨zB BK385.out⟩, ⟨zH1 HB.out GE385.out⟩⟩
                  case round =>
                    clear H'
                    try clear c1
                    try clear p1
                    try clear q1
                    try clear hx1
                    try clear p2
                    try clear c3
                    try clear c5
                    try clear p6
                    try clear c8
                    try clear c8b0
                    try clear c10
                    try clear c10b0
                    try clear c11
                    try clear c11b0
                    try clear p12
                    try clear q12
                    try clear hx12
                    try clear c13
                    try clear c13b0
                    try clear c13b1
                    try clear c13b2
                    try clear c14
                    try clear c16
                    try clear c16b0
                    try clear c17
                    try clear c17b0
                    try clear c17b1
                    try clear c17b2
                    try clear hcz14_0
                    try clear hcz14_1
                    try clear hcz14_2
                    try clear hcz14_3
                    try clear hcz18_0
                    try clear hcz18_1
                    try clear hcz18_2
                    try clear hcz18_3
                    try clear hcz5_0
                    try clear hcz5_1
                    try clear hcz5_2
                    try clear hcz5_3
                    try clear hcz7_0
                    try clear hcz7_1
                    try clear hcz7_2
                    try clear hcz7_3
                    try clear hfz14_0
                    try clear hfz14_1
                    try clear hfz14_2
                    try clear hfz14_3
                    try clear hfz18_0
                    try clear hfz18_1
                    try clear hfz18_2
                    try clear hfz18_3
                    try clear hfz5_0
                    try clear hfz5_1
                    try clear hfz5_2
                    try clear hfz5_3
                    try clear hfz7_0
                    try clear hfz7_1
                    try clear hfz7_2
                    try clear hfz7_3
                    try clear p1
                    try clear p12
                    try clear p2
                    try clear p6
                    try clear q1
                    try clear q12
                    obtain ⟨x4_3, x33_3, rfl, rfl, HA, HK3, BK385, HB⟩ := hrel
                    cases gk with
                    | zero => exact absurd HA.out (by simp [impl_FieldText.l2])
                    | succ k3 =>
                      have H := HA.out
                      clear HA
                      simp only [impl_FieldText.l2] at H
                      by_cases c19 : x33_3 < x6_2
                      · rw [if_pos c19] at H
                        have c19b0 := decide_eq_true c19
                        clear c19
                        obtain ⟨t388, A20, H⟩ := zb H
                        obtain ⟨t389, A21, H⟩ := zb H
                        obtain ⟨t390, A22, H⟩ := zb H
                        by_cases c23 : x4_3.size + t390.size ≤ 9223372036854775807
                        · rw [if_pos c23] at H
                          have c23b0 := eq_true c23
                          have c23b1 := decide_eq_true c23
                          try have c23b2 : (9223372036854775807 < x4_3.size + t390.size) = False := eq_false (Nat.not_lt.2 c23)
                          have H' := Aside0.mk H
                          clear H
                          obtain ⟨hcz24_0, hcz24_1, hcz24_2, hcz24_3⟩ := zc4 BK385
                          obtain ⟨hfz24_0, hfz24_1, hfz24_2, hfz24_3⟩ := zf4 BK385
                          go_wp2_with (first | ((with_reducible refine gate_callee (f := 53) rfl ?_); refine goesL_ (some 40) rfl rfl Tryz.func53 (by kernel_rfl) rfl #[.agg #[.int .i64 a0_0, .int .i64 a0_1, .int .i64 a0_2, .int .i64 a0_3], .int .i64 x33_3, .int .i64 x6_2] rfl zM ?_; (with_reducible refine (impl_Field_joins.calls a0_0 a0_1 a0_2 a0_3 x33_3 x6_2 t388 _ A20.out).mono ?_); rintro e w25 ⟨rfl, hb⟩; refine ⟨_, rfl, ?_⟩; refine zA2 (zY BK385.out hb) (below_step (zH1 HB.out GE385.out) hb) ?_; clear BK385 HB; intro BK385 HB; (try clear hb); (try clear hb2); (try clear hk); (try clear hi)) | ((with_reducible refine gate_callee (f := 52) rfl ?_); refine goesL_ (some 41) rfl rfl Tryz.func52 (by kernel_rfl) rfl #[.bool t388] rfl zM ?_; (with_reducible refine (impl_bit.calls t388 t389 _ A21.out).mono ?_); rintro e w' ⟨rfl, ⟨nd, rfl⟩⟩; refine ⟨_, rfl, ?_⟩) | ((with_reducible refine gate_callee (f := 51) rfl ?_); refine goesL_ (some 42) rfl rfl Tryz.func51 (by kernel_rfl) rfl #[.int .i64 t389] rfl zM ?_; (with_reducible refine (impl_decimal.calls t389 t390 _ A22.out).mono ?_); rintro e w26 ⟨rfl, hb⟩; refine ⟨_, rfl, ?_⟩; refine zA2 (zY BK385.out hb) (below_step (zH1 HB.out GE385.out) hb) ?_; clear BK385 HB; intro BK385 HB; (try clear hb); (try clear hb2); (try clear hk); (try clear hi)))
                          go_roundg k3
                          case measure => have := HK1.out; have := HK2.out; have := HK3.out; omega
                          case rel => exact ⟨(x4_3 ++ t390), (wrap64 (x33_3 + 1)), (zF), (zF), H', ⟨by have := HK1.out; have := HK2.out; have := HK3.out; omega⟩, ⟨zB BK385.out⟩, ⟨zH1 HB.out GE385.out⟩⟩
                        · rw [if_neg c23] at H
                          exact absurd H (by simp)
                      · rw [if_neg c19] at H
                        have c19b0 := decide_eq_false c19
                        clear c19
                        have H' := Aside0.mk H
                        clear H
                        go_wp2
                        go_roundg k3
                        case measure => have := HK1.out; have := HK2.out; have := HK3.out; omega
                        case rel => exact ⟨(x4_3), (wrap64 (x6_2 + 1)), (zF), (zF), H', ⟨by have := HK1.out; have := HK2.out; have := HK3.out; omega⟩, ⟨zB BK385.out⟩, ⟨zH1 HB.out GE385.out⟩⟩
                · rw [if_neg c17] at H
                  exact absurd H (by simp)
              · rw [if_neg c16] at H
                have c16b0 := decide_eq_false c16
                clear c16
                simp only [Option.some.injEq, Prod.mk.injEq] at H
                obtain ⟨rfl, rfl⟩ := H
                obtain ⟨hcz27_0, hcz27_1, hcz27_2, hcz27_3⟩ := zc4 BK385
                obtain ⟨hfz27_0, hfz27_1, hfz27_2, hfz27_3⟩ := zf4 BK385
                go_wp2
                go_ret2
                exact ⟨zE, zH1 HB.out GE385.out⟩
  · replace c3 := Bool.eq_false_iff.mpr c3
    subst c3
    have H1 : (some ((⟨#[]⟩ : ByteArray), 1)) = some (r1, r2) := by rw [if_neg (show ¬ (false = true) by decide)] at H; exact H
    clear H
    have H := H1
    clear H1
    simp only [Option.some.injEq, Prod.mk.injEq] at H
    obtain ⟨rfl, rfl⟩ := H
    go_enter Tryz.func14, Tryz.ntmps14
    go_wp2_with (first | ((with_reducible refine gate_dst (N := 1) rfl ?_); refine zX 1 #[.int .i64 a0_0, .int .i64 a0_1, .int .i64 a0_2, .int .i64 a0_3] 25 ?_; intro gb385 hg w28 hbox hb; refine zA4 (below_step (zH HB.out) hb) (hbox) ((zS hg (below_size (zH HB.out)) : w.heap.size ≤ gb385)) ((zS hg (below_size (zH HB.out)) : w.heap.size ≤ gb385)) ?_; clear HB; intro HB BK385 GW385 GE385; clear hb hbox hg; obtain ⟨hcz29_0, hcz29_1, hcz29_2, hcz29_3⟩ := zc4 BK385; obtain ⟨hfz29_0, hfz29_1, hfz29_2, hfz29_3⟩ := zf4 BK385) | ((with_reducible refine gate_callee (f := 11) rfl ?_); refine goesL_ (some 9) rfl rfl Tryz.func11 (by kernel_rfl) rfl #[.agg #[.int .i64 a0_0, .int .i64 a0_1, .int .i64 a0_2, .int .i64 a0_3]] rfl zM ?_; (with_reducible refine (impl_IsField.calls a0_0 a0_1 a0_2 a0_3 false _ A2.out).mono ?_); rintro e w30 ⟨rfl, hb⟩; refine ⟨_, rfl, ?_⟩; refine zA2 (zY BK385.out hb) (below_step (zH1 HB.out GE385.out) hb) ?_; clear BK385 HB; intro BK385 HB; (try clear hb); (try clear hb2); (try clear hk); (try clear hi)))
    go_ret2
    exact ⟨zE, zH1 HB.out GE385.out⟩

end Go.Proofs.YtlmohkbimnhecaaGreatDoor.Q
