-- Written by a program of this session (wip/tools/px.sh) over the seat's translation; Lean checks it.
import Derived.Test.YtelfllbjcpndfaaQ0
import Derived.Test.YtelfllbjcpndfaaSq
import Derived.Test.YtelfllbjcpndfaaQ1
import Derived.Test.YtelfllbjcpndfaaQ2
import Derived.Test.YtelfllbjcpndfaaOutDraw3
import Derived.Test.YtelfllbjcpndfaaOutFree
import Derived.Test.YtelfllbjcpndfaaOutWith
import Derived.Test.YtelfllbjcpndfaaSpecBehind
import Derived.Test.YtelfllbjcpndfaaSpecBehind2
import Derived.Test.YtelfllbjcpndfaaQ4
namespace Go.Proofs.Ytelfllbjcpndfaa.Q
open Go.RowKit Go.Proofs.YtelfllbjcpndfaaW.PrintWords Go.Proofs.YtelfllbjcpndfaaW.PrintLast Go.Proofs.YtelfllbjcpndfaaW.PrintMore
attribute [local go_sem] max2_int min2_int max_two min_two max_three min_three max_four min_four   -- for this text's walks alone
set_option linter.unusedVariables false
set_option linter.unusedSimpArgs false

/-! ### spec_l03Best: function 28 -/
def spec_l03Best.l0 : Nat → List Int → List Int → List Int → Int → List Int → Int → Int → Int → Int → Option (List Int × List Int)
  | 0, _, _, _, _, _, _, _, _, _ => none
  | k + 1, x1, x2, x7, x8, x9, x10, x267000, x267001, x267002 => if x10 < (x7.length : Int) then (if 0 ≤ x10 then ((spec_l03Behind.f k x267000 x267001 x267002 (rd x7 x10) x1 x2).bind fun bt276 => (if bt276.1 = x8 then (if x9.length < 17592186044416 then (spec_l03Best.l0 k x1 bt276.2 x7 x8 (x9 ++ [rd x7 x10]) (wrap64 (x10 + 1)) x267000 x267001 x267002) else (none)) else (spec_l03Best.l0 k x1 bt276.2 x7 x8 x9 (wrap64 (x10 + 1)) x267000 x267001 x267002))) else (none)) else (some (x9, x2))
def spec_l03Best.f (k : Nat) (a0_0 : Int) (a0_1 : Int) (a0_2 : Int) (l1 : List Int) (l2 : List Int) : Option (List Int × List Int) := (spec_l03Free.f k a0_0 a0_1 a0_2).bind fun t267 => ((spec_l03Score.f k a0_0 a0_1 a0_2 l1 l2).bind fun bt270 => (spec_l03Best.l0 k l1 bt270.2 t267 bt270.1 (([] : List Int)) 0 a0_0 a0_1 a0_2))
theorem spec_l03Best.mono_l : ∀ k, (∀ y0 y1 y2 y3 y4 y5 y6 y7 y8, LeO (spec_l03Best.l0 k y0 y1 y2 y3 y4 y5 y6 y7 y8) (spec_l03Best.l0 (k + 1) y0 y1 y2 y3 y4 y5 y6 y7 y8))
  | 0 => fun _ _ _ _ _ _ _ _ _ r h => by simp [spec_l03Best.l0] at h
  | k + 1 => by
    have ih0 := spec_l03Best.mono_l k
    · intro y0 y1 y2 y3 y4 y5 y6 y7 y8
      unfold spec_l03Best.l0
      repeat' first
      | (with_reducible exact ih0 _ _ _ _ _ _ _ _ _)
      | (with_reducible exact spec_l03Behind.mono _ _ _ _ _ _ _)
      | (with_reducible exact spec_l03Free.mono _ _ _ _)
      | (with_reducible exact spec_l03Score.mono _ _ _ _ _ _)
      | (with_reducible exact LeO.refl _)
      | (with_reducible exact LeO.none _)
      | (with_reducible refine LeO.ite ?_ ?_)
      | (with_reducible refine LeO.bind ?_ (fun _ => ?_))
      | exact ih0 _ _ _ _ _ _ _ _ _
      | exact spec_l03Behind.mono _ _ _ _ _ _ _
      | exact spec_l03Free.mono _ _ _ _
      | exact spec_l03Score.mono _ _ _ _ _ _
      | exact LeO.none _
      | refine LeO.ite ?_ ?_
      | refine LeO.bind ?_ (fun _ => ?_)
theorem spec_l03Best.mono : ∀ a0 a1 a2 a3 a4 k, LeO (spec_l03Best.f k a0 a1 a2 a3 a4) (spec_l03Best.f (k + 1) a0 a1 a2 a3 a4) := by
  intro a0 a1 a2 a3 a4 k
  have ih0 := spec_l03Best.mono_l k
  unfold spec_l03Best.f
  repeat' first
      | (with_reducible exact ih0 _ _ _ _ _ _ _ _ _)
      | (with_reducible exact spec_l03Behind.mono _ _ _ _ _ _ _)
      | (with_reducible exact spec_l03Free.mono _ _ _ _)
      | (with_reducible exact spec_l03Score.mono _ _ _ _ _ _)
      | (with_reducible exact LeO.refl _)
      | (with_reducible exact LeO.none _)
      | (with_reducible refine LeO.ite ?_ ?_)
      | (with_reducible refine LeO.bind ?_ (fun _ => ?_))
      | exact ih0 _ _ _ _ _ _ _ _ _
      | exact spec_l03Behind.mono _ _ _ _ _ _ _
      | exact spec_l03Free.mono _ _ _ _
      | exact spec_l03Score.mono _ _ _ _ _ _
      | exact LeO.none _
      | refine LeO.ite ?_ ?_
      | refine LeO.bind ?_ (fun _ => ?_)
def spec_l03Best.T1 : Bool × List (List Nat × List Nat) := (true, [([], []), ([0], [0]), ([], []), ([], []), ([], []), ([2, 3, 4, 1], [2, 3, 4]), ([], []), ([1, 5, 0, 1], [1]), ([5, 7, 0, 1, 2, 3, 4, 5, 7], [5]), ([6, 8, 0, 1, 2, 3, 4, 5, 6, 7, 8], [6])])
def spec_l03Best.B1 : List Nat := [0, 1, 0, 0, 0, 31, 0, 63, 191, 511]
theorem spec_l03Best.tab1 : rtab .any (opsOf Try.f28 1) = spec_l03Best.T1 := by kernel_rfl
theorem spec_l03Best.bits1 : waitsOk spec_l03Best.T1.2 spec_l03Best.B1 = true := by kernel_rfl
def spec_l03Best.T5 : Bool × List (List Nat × List Nat) := (true, [([], []), ([], []), ([], []), ([1, 2], [1, 2]), ([3], [3]), ([], []), ([], []), ([0, 4, 5, 6], [0, 4, 5, 6]), ([], []), ([7, 8], [7, 8])])
def spec_l03Best.B5 : List Nat := [0, 0, 0, 6, 14, 0, 0, 127, 0, 511]
theorem spec_l03Best.tab5 : rtab .any (opsOf Try.f28 5) = spec_l03Best.T5 := by kernel_rfl
theorem spec_l03Best.bits5 : waitsOk spec_l03Best.T5.2 spec_l03Best.B5 = true := by kernel_rfl
set_option maxHeartbeats 8000000 in
set_option maxRecDepth 100000 in
theorem spec_l03Best.calls (k : Nat) (a0_0 : Int) (a0_1 : Int) (a0_2 : Int) (A1 : Option Addr) (c1 : Nat) (l1 : List Int) (P2_ : Nat → Prop) (u9000_ : Value) (l2 : List Int) (r1 : List Int) (r2 : List Int) (w0 w : World) (hB : Below w0.heap.size w0 w) (hr1 : ∀ W_, Kept w W_ (fun k_ => P2_ k_) → Kd.C (Kd.int .i64) W_ A1 l1.length l1) (hc1 : l1.length ≤ c1) (ho2 : Kd.R (Kd.int .i64) 2 w w0.heap.size P2_ u9000_ l2) (h : spec_l03Best.f k a0_0 a0_1 a0_2 l1 l2 = some (r1, r2)) :
    Calls Try.prog 28 #[.agg #[.int .i64 a0_0, .int .i64 a0_1, .int .i64 a0_2], .slice A1 l1.length c1, u9000_] w fun e w' => ∃ v0_ : Value, e = .returned (v0_) ∧ Kd.R (Kd.int .i64) 2 w' w0.heap.size (fun k_ => (P2_ k_ ∨ w.heap.size ≤ k_) ∧ some k_ ≠ (u9000_ : Value).ownBlock) v0_ r1 ∧ Kd.R (Kd.int .i64) 2 w' w0.heap.size (fun k_ => (P2_ k_ ∨ w.heap.size ≤ k_)) u9000_ r2 ∧ Below w0.heap.size w0 w' ∧ Kept w w' (fun k_ => P2_ k_) := by
  have hu25 := Try.underlying25
  have HR1 := Aside0.mk hr1
  have HC1 := Aside0.mk hc1
  clear hr1 hc1
  have HO2 := Aside0.mk (show Kd.R (Kd.int .i64) 2 w w0.heap.size (fun k_ => (P2_ k_ ∨ w.heap.size ≤ k_)) u9000_ l2 from Kd.R_mono ho2 (fun k_ hk => (.inl hk)))
  have HK := Aside0.mk (Kept.refl w (fun k_ => P2_ k_))
  have HW0 := Aside0.mk hB.size
  have HB := Aside0.mk hB
  clear hB
  have H : ((spec_l03Free.f k a0_0 a0_1 a0_2).bind fun t267 => ((spec_l03Score.f k a0_0 a0_1 a0_2 l1 l2).bind fun bt270 => (spec_l03Best.l0 k l1 bt270.2 t267 bt270.1 (([] : List Int)) 0 a0_0 a0_1 a0_2))) = some (r1, r2) := h
  clear h
  obtain ⟨t267, A4, H⟩ := zb H
  obtain ⟨⟨t270, t271⟩, A5, H⟩ := zb H; (try dsimp only at H)
  obtain ⟨y272, hy272⟩ : ∃ y_ : List Int, y_ = (([] : List Int)) := ⟨_, rfl⟩
  replace H : (spec_l03Best.l0 k l1 t271 t267 t270 y272 0 a0_0 a0_1 a0_2) = some (r1, r2) := by first | (rw [hy272]; with_reducible exact H) | (have H2_ := (Option.bind_some _ _).symm.trans H; rw [hy272]; with_reducible exact H2_) | (have H2_ := (Option.bind_some _ _).symm.trans H; with_reducible exact H2_) | with_reducible exact H | (rw [hy272]; exact H) | exact H
  have Ny272 := Aside0.mk hy272
  clear hy272
  have H' := Aside0.mk H
  clear H
  go_enter Try.func28, Try.ntmps28
  try go_wp2_with (first | ((with_reducible refine gate_dst (N := 3) rfl ?_); refine zX 3 #[.int .i64 a0_0, .int .i64 a0_1, .int .i64 a0_2] 25 ?_; intro gb266 hg w6 hbox hb; refine zA6 (Kd.R_below (zR HO2.out) hb) (Kept.below (S := (fun k_ => P2_ k_)) (zK HK.out) hb) (below_step (zH HB.out) hb) (hbox) ((by rw [hg]; exact (by first | exact HK.out.1 | exact (show Kept w _ (fun k_ => P2_ k_) from zK HK.out).1) : w.heap.size ≤ gb266)) ((zS hg (below_size (zH HB.out)) : w0.heap.size ≤ gb266)) ?_; clear HO2 HK HB; intro HO2 HK HB BK266 GW266 GE266; clear hb hbox hg; obtain ⟨Ao7, co7, eo7⟩ := Kd.R_slice HO2.out; subst eo7))
  refine zA4 (Kd.R_drew HO2.out) (blk_drew BK266.out) (Kept.drew HK.out) (below_drew1 HB.out) ?_
  clear HO2 BK266 HK HB
  intro HO2 BK266 HK HB
  refine start_ (n := 10) (S := fun w' => w'.cell? ⟨gb266, 0, none⟩ = some (.int .i64 a0_0) ∧ w'.cell? ⟨gb266, 1, none⟩ = some (.int .i64 a0_1) ∧ w'.cell? ⟨gb266, 2, none⟩ = some (.int .i64 a0_2)) (ds := []) #[false, false, false, false, false, false, false, false, false, false] (by kernel_rfl) rfl rfl ⟨(blk_cell BK266.out 0).trans rfl, (blk_cell BK266.out 1).trans rfl, (blk_cell BK266.out 2).trans rfl⟩ (fun hHeld => ?_); refine with_tabW spec_l03Best.tab1 spec_l03Best.bits1 (fun HT_ HW_ => ?_)
  generalize w6.drew = w8 at HO2 BK266 HK HB hHeld ⊢
  refine zP HT_ 3 (some 14) rfl rfl ?_
  refine zP HT_ 4 (some 15) rfl rfl ?_
  refine zT HT_ HW_ hHeld 0 (some 11) rfl rfl ?_
  refine zT HT_ HW_ hHeld 2 (some 13) rfl rfl ?_
  refine join_ (σ := Value × Value) 1 #[true, true, true, true, true, true, true, true, true, false] (fun s_ => [(12, s_.1), (16, .int .i64 t270), (17, s_.2), (7, s_.1), (8, .int .i64 t270)]) (fun s_ w' => (w'.cell? ⟨gb266, 0, none⟩ = some (.int .i64 a0_0) ∧ w'.cell? ⟨gb266, 1, none⟩ = some (.int .i64 a0_1) ∧ w'.cell? ⟨gb266, 2, none⟩ = some (.int .i64 a0_2)) ∧ (Kd.R (Kd.int .i64) 2 w' w0.heap.size (fun k_ => (P2_ k_ ∨ w.heap.size ≤ k_) ∧ some k_ ≠ (s_.1 : Value).ownBlock ∧ some k_ ≠ (s_.2 : Value).ownBlock) (.slice Ao7 l2.length co7) t271) ∧ (Kd.R (Kd.int .i64) 2 w' w0.heap.size (fun k_ => (P2_ k_ ∨ w.heap.size ≤ k_) ∧ some k_ ≠ (.slice Ao7 l2.length co7 : Value).ownBlock ∧ some k_ ≠ (s_.2 : Value).ownBlock) s_.1 t267) ∧ (Kd.R (Kd.int .i64) 2 w' w0.heap.size (fun k_ => (P2_ k_ ∨ w.heap.size ≤ k_) ∧ some k_ ≠ (.slice Ao7 l2.length co7 : Value).ownBlock ∧ some k_ ≠ (s_.1 : Value).ownBlock) s_.2 y272) ∧ (w'.heap[gb266]? = some (.cells #[.int .i64 a0_0, .int .i64 a0_1, .int .i64 a0_2] 25 (0, 0))) ∧ (Kept w w' (fun k_ => P2_ k_)) ∧ (Below w0.heap.size w0 w')) ?_ ?_
  rotate_left
  · intro hCont
    refine two_ (i := 1) (j := 6) (Ni := some 12) (Nj := some 17) #[true, true, true, true, true, false, false, false, false, false] #[true, false, true, true, true, false, true, false, false, false] rfl rfl rfl rfl (two_of HT_.out (by kernel_rfl)) (by decide) (by decide) (fun K hK => ?_) (fun K hK => ?_)
    · skip
      refine goes_ Try.func24 (by kernel_rfl) rfl #[.agg #[.int .i64 a0_0, .int .i64 a0_1, .int .i64 a0_2]] (by rfl) rfl rfl zM ?_
      with_reducible refine (spec_l03Free.calls k a0_0 a0_1 a0_2 t267 _ A4.out).mono ?_
      rintro e w9 ⟨v268, rfl, ho0, hb⟩
      refine ⟨_, rfl, ?_⟩
      refine zA5 (Kd.R_elder' (zR HO2.out) (Kd.R_base ho0) hb) (Kd.R_lower (Kd.R_new' (Kd.R_newM (M := fun k_ => (P2_ k_ ∨ w.heap.size ≤ k_)) ho0 (by first | exact HK.out.1 | exact (show Kept w _ (fun k_ => P2_ k_) from zK1 HK.out GW266.out).1) (fun k_ h_ => .inr h_)) (Kd.R_lt (zR HO2.out))) (below_size (zH1 HB.out GE266.out))) (blk_below (g := gb266) (o := .cells #[.int .i64 a0_0, .int .i64 a0_1, .int .i64 a0_2] 25 (0, 0)) (zB BK266.out) hb) (Kept.below (S := (fun k_ => P2_ k_)) (zK1 HK.out GW266.out) hb) (below_step (zH1 HB.out GE266.out) hb) ?_
      clear HO2 BK266 HK HB
      intro HO2 HO269 BK266 HK HB
      (try clear hb)
      (try clear hb2)
      (try clear hk)
      (try clear hi)
      (try clear ho0)
      refine hK.out _ _ ⟨(blk_cell BK266.out 0).trans rfl, (blk_cell BK266.out 1).trans rfl, (blk_cell BK266.out 2).trans rfl⟩ (fun hHeld => ?_)
      clear hK K
      refine zW (some 12) ?_
      refine two_ (i := 5) (j := 6) (Ni := some 16) (Nj := some 17) #[true, true, true, true, true, true, false, false, false, false] #[true, true, true, true, true, false, true, false, false, false] rfl rfl rfl rfl (two_of HT_.out (by kernel_rfl)) (by decide) (by decide) (fun K hK => ?_) (fun K hK => ?_)
      · skip
        refine goes_ Try.func25 (by kernel_rfl) rfl #[.agg #[.int .i64 a0_0, .int .i64 a0_1, .int .i64 a0_2], .slice A1 l1.length c1, .slice Ao7 l2.length co7] (by rfl) rfl rfl zM ?_
        with_reducible refine (spec_l03Score.calls k a0_0 a0_1 a0_2 _ _ l1 (fun k_ => some k_ = (.slice Ao7 l2.length co7 : Value).ownBlock) (.slice Ao7 l2.length co7) l2 t270 t271 w0 _ ?side1 ?side2 ?side3 ?side4 A5.out).mono ?_
        (case side1 => exact zH1 HB.out GE266.out)
        (case side2 => exact Kd.C_kept_call HR1.out (zK1 HK.out GW266.out) (fun k_ hs_ => (fun e_ => (HO2.out.1 k_ e_.symm).1) hs_))
        (case side3 => exact HC1.out)
        (case side4 => exact Kd.R_tight rfl HO2.out)
        rintro e w10 ⟨rfl, hy0, hb, hkp⟩
        refine ⟨_, rfl, ?_⟩
        refine zA5 (Kd.R_reok rfl hy0 (fun k_ e_ => HO2.out.1 k_ e_)) (blk_kept (zB BK266.out) hkp (fun hs_ => (fun e_ => (Kd.R_ne HO2.out BK266.out (by decide)) e_) hs_)) (Kd.R_mono (ok' := fun k_ => (P2_ k_ ∨ w.heap.size ≤ k_) ∧ some k_ ≠ (.slice Ao7 l2.length co7 : Value).ownBlock) (Kd.R_keptB (HO269.out) hkp (fun k_ hk_ hs_ => (hk_.2) hs_)) (fun k_ hk_ => ⟨hk_.1.1.1, hk_.1.2⟩)) (Kept.then_ (S := (fun k_ => P2_ k_)) (zK1 HK.out GW266.out) hkp (fun k_ hs_ => (fun e_ => (HO2.out.1 k_ e_.symm).1) hs_)) (hb) ?_
        clear HO2 BK266 HO269 HK HB
        intro HO2 BK266 HO269 HK HB
        (try clear hb)
        (try clear hkp)
        (try clear hy0)
        refine hK.out _ _ ⟨(blk_cell BK266.out 0).trans rfl, (blk_cell BK266.out 1).trans rfl, (blk_cell BK266.out 2).trans rfl⟩ (fun hHeld => ?_)
        clear hK K
        refine zW (some 16) ?_
        refine zP HT_ 7 (some 7) rfl rfl ?_
        refine zP HT_ 8 (some 8) rfl rfl ?_
        refine one_ (i := 6) (N := some 17) #[true, true, true, true, true, true, true, true, true, false] rfl rfl (one_of HT_.out (by kernel_rfl)) (by decide) (fun K hK => ?_)
        refine Kd.R_lit_step (Kd.int .i64) _ 2 ?hg (N := 17) ?hd (xs := ([] : List Int)) (inner := []) (ok := fun _ => True) (okp := fun _ => True) ?hr ?hp (fun _ hk => hk) trivial (Below.refl _ _) (Nat.le_refl _) (by simp) ?_; (case hd => rfl); (case hg => rfl); (case hr => first | (go_simp; done) | (go_simp; rfl)); (case hp => exact (Reps.none _ _))
        intro v273 w11 ho12 hb hg_ hnew_
        clear hg_ hnew_
        (first | rw [← Ny272.out] at ho12 | (simp only [Int.reduceToNat] at ho12; rw [← Ny272.out] at ho12))
        refine zA6 (Kd.R_elder' (zR HO2.out) (Kd.R_base ho12) hb) (Kd.R_elder' (zR HO269.out) (Kd.R_base ho12) hb) (Kd.R_lower (Kd.R_new' (Kd.R_new' (Kd.R_newM (M := fun k_ => (P2_ k_ ∨ w.heap.size ≤ k_)) ho12 (by first | exact HK.out.1 | exact (show Kept w _ (fun k_ => P2_ k_) from zK1 HK.out GW266.out).1) (fun k_ h_ => .inr h_)) (Kd.R_lt (zR HO2.out))) (Kd.R_lt (zR HO269.out))) (below_size (zH1 HB.out GE266.out))) (blk_below (g := gb266) (o := .cells #[.int .i64 a0_0, .int .i64 a0_1, .int .i64 a0_2] 25 (0, 0)) (zB BK266.out) hb) (Kept.below (S := (fun k_ => P2_ k_)) (zK1 HK.out GW266.out) hb) (below_step (zH1 HB.out GE266.out) hb) ?_
        clear HO2 HO269 BK266 HK HB
        intro HO2 HO269 HO274 BK266 HK HB
        clear hb ho12
        refine hK.out _ _ ⟨(blk_cell BK266.out 0).trans rfl, (blk_cell BK266.out 1).trans rfl, (blk_cell BK266.out 2).trans rfl⟩ (fun hHeld => ?_)
        clear hK K
        refine zW (some 17) ?_
        exact norm_ (by simp only [putAll, Act.put, List.setIfInBounds_toArray, List.set_cons_zero, List.set_cons_succ]) (hCont (v268, v273) _ ⟨hHeld, (zRm HO2.out (fun _ hk => ⟨hk.1.1, ⟨hk.1.2, hk.2⟩⟩)), (zRm HO269.out (fun _ hk => ⟨hk.1.1, ⟨hk.1.2, hk.2⟩⟩)), (zRm HO274.out (fun _ hk => ⟨hk.1.1.1, ⟨hk.1.2, hk.2⟩⟩)), (zB BK266.out), (zK1 HK.out GW266.out), (zH1 HB.out GE266.out)⟩)
      · skip
        refine Kd.R_lit_step (Kd.int .i64) _ 2 ?hg (N := 17) ?hd (xs := ([] : List Int)) (inner := []) (ok := fun _ => True) (okp := fun _ => True) ?hr ?hp (fun _ hk => hk) trivial (Below.refl _ _) (Nat.le_refl _) (by simp) ?_; (case hd => rfl); (case hg => rfl); (case hr => first | (go_simp; done) | (go_simp; rfl)); (case hp => exact (Reps.none _ _))
        intro v273 w10 ho11 hb hg_ hnew_
        clear hg_ hnew_
        (first | rw [← Ny272.out] at ho11 | (simp only [Int.reduceToNat] at ho11; rw [← Ny272.out] at ho11))
        refine zA6 (Kd.R_elder' (zR HO2.out) (Kd.R_base ho11) hb) (Kd.R_elder' (zR HO269.out) (Kd.R_base ho11) hb) (Kd.R_lower (Kd.R_new' (Kd.R_new' (Kd.R_newM (M := fun k_ => (P2_ k_ ∨ w.heap.size ≤ k_)) ho11 (by first | exact HK.out.1 | exact (show Kept w _ (fun k_ => P2_ k_) from zK1 HK.out GW266.out).1) (fun k_ h_ => .inr h_)) (Kd.R_lt (zR HO2.out))) (Kd.R_lt (zR HO269.out))) (below_size (zH1 HB.out GE266.out))) (blk_below (g := gb266) (o := .cells #[.int .i64 a0_0, .int .i64 a0_1, .int .i64 a0_2] 25 (0, 0)) (zB BK266.out) hb) (Kept.below (S := (fun k_ => P2_ k_)) (zK1 HK.out GW266.out) hb) (below_step (zH1 HB.out GE266.out) hb) ?_
        clear HO2 HO269 BK266 HK HB
        intro HO2 HO269 HO274 BK266 HK HB
        clear hb ho11
        refine hK.out _ _ ⟨(blk_cell BK266.out 0).trans rfl, (blk_cell BK266.out 1).trans rfl, (blk_cell BK266.out 2).trans rfl⟩ (fun hHeld => ?_)
        clear hK K
        refine zW (some 17) ?_
        refine one_ (i := 5) (N := some 16) #[true, true, true, true, true, true, true, false, false, false] rfl rfl (one_of HT_.out (by kernel_rfl)) (by decide) (fun K hK => ?_)
        refine goes_ Try.func25 (by kernel_rfl) rfl #[.agg #[.int .i64 a0_0, .int .i64 a0_1, .int .i64 a0_2], .slice A1 l1.length c1, .slice Ao7 l2.length co7] (by rfl) rfl rfl zM ?_
        with_reducible refine (spec_l03Score.calls k a0_0 a0_1 a0_2 _ _ l1 (fun k_ => some k_ = (.slice Ao7 l2.length co7 : Value).ownBlock) (.slice Ao7 l2.length co7) l2 t270 t271 w0 _ ?side1 ?side2 ?side3 ?side4 A5.out).mono ?_
        (case side1 => exact zH1 HB.out GE266.out)
        (case side2 => exact Kd.C_kept_call HR1.out (zK1 HK.out GW266.out) (fun k_ hs_ => (fun e_ => (HO2.out.1 k_ e_.symm).1.1) hs_))
        (case side3 => exact HC1.out)
        (case side4 => exact Kd.R_tight rfl HO2.out)
        rintro e w12 ⟨rfl, hy0, hb, hkp⟩
        refine ⟨_, rfl, ?_⟩
        refine zA6 (Kd.R_reok rfl hy0 (fun k_ e_ => HO2.out.1 k_ e_)) (blk_kept (zB BK266.out) hkp (fun hs_ => (fun e_ => (Kd.R_ne HO2.out BK266.out (by decide)) e_) hs_)) (Kd.R_mono (ok' := fun k_ => (P2_ k_ ∨ w.heap.size ≤ k_) ∧ some k_ ≠ (.slice Ao7 l2.length co7 : Value).ownBlock ∧ some k_ ≠ (v273 : Value).ownBlock) (Kd.R_keptB (HO269.out) hkp (fun k_ hk_ hs_ => (hk_.1.2) hs_)) (fun k_ hk_ => ⟨hk_.1.1.1.1, hk_.1.1.2, hk_.1.2⟩)) (Kd.R_mono (ok' := fun k_ => (P2_ k_ ∨ w.heap.size ≤ k_) ∧ some k_ ≠ (.slice Ao7 l2.length co7 : Value).ownBlock ∧ some k_ ≠ (v268 : Value).ownBlock) (Kd.R_keptB (HO274.out) hkp (fun k_ hk_ hs_ => (hk_.1.2) hs_)) (fun k_ hk_ => ⟨hk_.1.1.1.1, hk_.1.1.2, hk_.1.2⟩)) (Kept.then_ (S := (fun k_ => P2_ k_)) (zK1 HK.out GW266.out) hkp (fun k_ hs_ => (fun e_ => (HO2.out.1 k_ e_.symm).1.1) hs_)) (hb) ?_
        clear HO2 BK266 HO269 HO274 HK HB
        intro HO2 BK266 HO269 HO274 HK HB
        (try clear hb)
        (try clear hkp)
        (try clear hy0)
        refine hK.out _ _ ⟨(blk_cell BK266.out 0).trans rfl, (blk_cell BK266.out 1).trans rfl, (blk_cell BK266.out 2).trans rfl⟩ (fun hHeld => ?_)
        clear hK K
        refine zW (some 16) ?_
        refine zP HT_ 7 (some 7) rfl rfl ?_
        refine zP HT_ 8 (some 8) rfl rfl ?_
        exact norm_ (by simp only [putAll, Act.put, List.setIfInBounds_toArray, List.set_cons_zero, List.set_cons_succ]) (hCont (v268, v273) _ ⟨hHeld, (zRm HO2.out (fun _ hk => ⟨hk.1.1, ⟨hk.1.2, hk.2⟩⟩)), (zR HO269.out), (zR HO274.out), (zB BK266.out), (zK1 HK.out GW266.out), (zH1 HB.out GE266.out)⟩)
    · skip
      refine Kd.R_lit_step (Kd.int .i64) _ 2 ?hg (N := 17) ?hd (xs := ([] : List Int)) (inner := []) (ok := fun _ => True) (okp := fun _ => True) ?hr ?hp (fun _ hk => hk) trivial (Below.refl _ _) (Nat.le_refl _) (by simp) ?_; (case hd => rfl); (case hg => rfl); (case hr => first | (go_simp; done) | (go_simp; rfl)); (case hp => exact (Reps.none _ _))
      intro v273 w9 ho10 hb hg_ hnew_
      clear hg_ hnew_
      (first | rw [← Ny272.out] at ho10 | (simp only [Int.reduceToNat] at ho10; rw [← Ny272.out] at ho10))
      refine zA5 (Kd.R_elder' (zR HO2.out) (Kd.R_base ho10) hb) (Kd.R_lower (Kd.R_new' (Kd.R_newM (M := fun k_ => (P2_ k_ ∨ w.heap.size ≤ k_)) ho10 (by first | exact HK.out.1 | exact (show Kept w _ (fun k_ => P2_ k_) from zK1 HK.out GW266.out).1) (fun k_ h_ => .inr h_)) (Kd.R_lt (zR HO2.out))) (below_size (zH1 HB.out GE266.out))) (blk_below (g := gb266) (o := .cells #[.int .i64 a0_0, .int .i64 a0_1, .int .i64 a0_2] 25 (0, 0)) (zB BK266.out) hb) (Kept.below (S := (fun k_ => P2_ k_)) (zK1 HK.out GW266.out) hb) (below_step (zH1 HB.out GE266.out) hb) ?_
      clear HO2 BK266 HK HB
      intro HO2 HO274 BK266 HK HB
      clear hb ho10
      refine hK.out _ _ ⟨(blk_cell BK266.out 0).trans rfl, (blk_cell BK266.out 1).trans rfl, (blk_cell BK266.out 2).trans rfl⟩ (fun hHeld => ?_)
      clear hK K
      refine zW (some 17) ?_
      refine one_ (i := 1) (N := some 12) #[true, true, true, true, true, false, true, false, false, false] rfl rfl (one_of HT_.out (by kernel_rfl)) (by decide) (fun K hK => ?_)
      refine goes_ Try.func24 (by kernel_rfl) rfl #[.agg #[.int .i64 a0_0, .int .i64 a0_1, .int .i64 a0_2]] (by rfl) rfl rfl zM ?_
      with_reducible refine (spec_l03Free.calls k a0_0 a0_1 a0_2 t267 _ A4.out).mono ?_
      rintro e w11 ⟨v268, rfl, ho0, hb⟩
      refine ⟨_, rfl, ?_⟩
      refine zA6 (Kd.R_elder' (zR HO2.out) (Kd.R_base ho0) hb) (Kd.R_elder' (zR HO274.out) (Kd.R_base ho0) hb) (Kd.R_lower (Kd.R_new' (Kd.R_new' (Kd.R_newM (M := fun k_ => (P2_ k_ ∨ w.heap.size ≤ k_)) ho0 (by first | exact HK.out.1 | exact (show Kept w _ (fun k_ => P2_ k_) from zK1 HK.out GW266.out).1) (fun k_ h_ => .inr h_)) (Kd.R_lt (zR HO2.out))) (Kd.R_lt (zR HO274.out))) (below_size (zH1 HB.out GE266.out))) (blk_below (g := gb266) (o := .cells #[.int .i64 a0_0, .int .i64 a0_1, .int .i64 a0_2] 25 (0, 0)) (zB BK266.out) hb) (Kept.below (S := (fun k_ => P2_ k_)) (zK1 HK.out GW266.out) hb) (below_step (zH1 HB.out GE266.out) hb) ?_
      clear HO2 HO274 BK266 HK HB
      intro HO2 HO274 HO269 BK266 HK HB
      (try clear hb)
      (try clear hb2)
      (try clear hk)
      (try clear hi)
      (try clear ho0)
      refine hK.out _ _ ⟨(blk_cell BK266.out 0).trans rfl, (blk_cell BK266.out 1).trans rfl, (blk_cell BK266.out 2).trans rfl⟩ (fun hHeld => ?_)
      clear hK K
      refine zW (some 12) ?_
      refine one_ (i := 5) (N := some 16) #[true, true, true, true, true, true, true, false, false, false] rfl rfl (one_of HT_.out (by kernel_rfl)) (by decide) (fun K hK => ?_)
      refine goes_ Try.func25 (by kernel_rfl) rfl #[.agg #[.int .i64 a0_0, .int .i64 a0_1, .int .i64 a0_2], .slice A1 l1.length c1, .slice Ao7 l2.length co7] (by rfl) rfl rfl zM ?_
      with_reducible refine (spec_l03Score.calls k a0_0 a0_1 a0_2 _ _ l1 (fun k_ => some k_ = (.slice Ao7 l2.length co7 : Value).ownBlock) (.slice Ao7 l2.length co7) l2 t270 t271 w0 _ ?side1 ?side2 ?side3 ?side4 A5.out).mono ?_
      (case side1 => exact zH1 HB.out GE266.out)
      (case side2 => exact Kd.C_kept_call HR1.out (zK1 HK.out GW266.out) (fun k_ hs_ => (fun e_ => (HO2.out.1 k_ e_.symm).1.1) hs_))
      (case side3 => exact HC1.out)
      (case side4 => exact Kd.R_tight rfl HO2.out)
      rintro e w12 ⟨rfl, hy0, hb, hkp⟩
      refine ⟨_, rfl, ?_⟩
      refine zA6 (Kd.R_reok rfl hy0 (fun k_ e_ => HO2.out.1 k_ e_)) (blk_kept (zB BK266.out) hkp (fun hs_ => (fun e_ => (Kd.R_ne HO2.out BK266.out (by decide)) e_) hs_)) (Kd.R_mono (ok' := fun k_ => (P2_ k_ ∨ w.heap.size ≤ k_) ∧ some k_ ≠ (.slice Ao7 l2.length co7 : Value).ownBlock ∧ some k_ ≠ (v268 : Value).ownBlock) (Kd.R_keptB (HO274.out) hkp (fun k_ hk_ hs_ => (hk_.1.2) hs_)) (fun k_ hk_ => ⟨hk_.1.1.1.1, hk_.1.1.2, hk_.1.2⟩)) (Kd.R_mono (ok' := fun k_ => (P2_ k_ ∨ w.heap.size ≤ k_) ∧ some k_ ≠ (.slice Ao7 l2.length co7 : Value).ownBlock ∧ some k_ ≠ (v273 : Value).ownBlock) (Kd.R_keptB (HO269.out) hkp (fun k_ hk_ hs_ => (hk_.1.2) hs_)) (fun k_ hk_ => ⟨hk_.1.1.1.1, hk_.1.1.2, hk_.1.2⟩)) (Kept.then_ (S := (fun k_ => P2_ k_)) (zK1 HK.out GW266.out) hkp (fun k_ hs_ => (fun e_ => (HO2.out.1 k_ e_.symm).1.1) hs_)) (hb) ?_
      clear HO2 BK266 HO274 HO269 HK HB
      intro HO2 BK266 HO274 HO269 HK HB
      (try clear hb)
      (try clear hkp)
      (try clear hy0)
      refine hK.out _ _ ⟨(blk_cell BK266.out 0).trans rfl, (blk_cell BK266.out 1).trans rfl, (blk_cell BK266.out 2).trans rfl⟩ (fun hHeld => ?_)
      clear hK K
      refine zW (some 16) ?_
      refine zP HT_ 7 (some 7) rfl rfl ?_
      refine zP HT_ 8 (some 8) rfl rfl ?_
      exact norm_ (by simp only [putAll, Act.put, List.setIfInBounds_toArray, List.set_cons_zero, List.set_cons_succ]) (hCont (v268, v273) _ ⟨hHeld, (zRm HO2.out (fun _ hk => ⟨hk.1.1, ⟨hk.2, hk.1.2⟩⟩)), (zR HO269.out), (zR HO274.out), (zB BK266.out), (zK1 HK.out GW266.out), (zH1 HB.out GE266.out)⟩)
  rintro ⟨v268, v273⟩ w13 ⟨hS_, h0_, h1_, h2_, h3_, h4_, h5_⟩
  have n0_ : Aside0 (Kd.R (Kd.int .i64) 2 w13 w0.heap.size (fun k_ => (P2_ k_ ∨ w.heap.size ≤ k_) ∧ some k_ ≠ (v268 : Value).ownBlock ∧ some k_ ≠ (v273 : Value).ownBlock) (.slice Ao7 l2.length co7) t271) := ⟨h0_⟩
  have n1_ : Aside0 (Kd.R (Kd.int .i64) 2 w13 w0.heap.size (fun k_ => (P2_ k_ ∨ w.heap.size ≤ k_) ∧ some k_ ≠ (.slice Ao7 l2.length co7 : Value).ownBlock ∧ some k_ ≠ (v273 : Value).ownBlock) v268 t267) := ⟨h1_⟩
  have n2_ : Aside0 (Kd.R (Kd.int .i64) 2 w13 w0.heap.size (fun k_ => (P2_ k_ ∨ w.heap.size ≤ k_) ∧ some k_ ≠ (.slice Ao7 l2.length co7 : Value).ownBlock ∧ some k_ ≠ (v268 : Value).ownBlock) v273 y272) := ⟨h2_⟩
  have n3_ : Aside0 (w13.heap[gb266]? = some (.cells #[.int .i64 a0_0, .int .i64 a0_1, .int .i64 a0_2] 25 (0, 0))) := ⟨h3_⟩
  have n4_ : Aside0 (Kept w w13 (fun k_ => P2_ k_)) := ⟨h4_⟩
  have n5_ : Aside0 (Below w0.heap.size w0 w13) := ⟨h5_⟩
  clear HO2
  clear BK266
  clear HK
  clear HB
  clear h0_ h1_ h2_ h3_ h4_ h5_
  have HO2 := n0_
  have HO269 := n1_
  have HO274 := n2_
  have BK266 := n3_
  have HK := n4_
  have HB := n5_
  clear n0_ n1_ n2_ n3_ n4_ n5_
  have hHeld : w13.cell? ⟨gb266, 0, none⟩ = some (.int .i64 a0_0) ∧ w13.cell? ⟨gb266, 1, none⟩ = some (.int .i64 a0_1) ∧ w13.cell? ⟨gb266, 2, none⟩ = some (.int .i64 a0_2) := hS_
  refine norm_ (a' := ?_) ?_ ?_
  rotate_left
  · simp only [putAll, Act.put, List.setIfInBounds_toArray, List.set_cons_zero, List.set_cons_succ]
    rfl
  refine zP HT_ 9 (some 9) rfl rfl ?_
  refine done_ (done_of HT_.out (by kernel_rfl)) ?_
  try go_wp2
  go_loopg [9, 10] k (fun kq v9 v10 w' => ∃ (x2_1 : List Int) (x9_1 : List Int) (x10_1 : Int), v10 = .int .i64 x10_1 ∧ Aside0 (spec_l03Best.l0 kq l1 x2_1 t267 t270 x9_1 x10_1 a0_0 a0_1 a0_2 = some (r1, r2)) ∧ Aside0 (kq ≤ k) ∧ Aside0 (Kd.R (Kd.int .i64) 2 w' w0.heap.size (fun k_ => (P2_ k_ ∨ w.heap.size ≤ k_) ∧ some k_ ≠ (v268 : Value).ownBlock ∧ some k_ ≠ (v9 : Value).ownBlock) (.slice Ao7 l2.length co7) x2_1) ∧ Aside0 (Kd.R (Kd.int .i64) 2 w' w0.heap.size (fun k_ => (P2_ k_ ∨ w.heap.size ≤ k_) ∧ some k_ ≠ ((.slice Ao7 l2.length co7) : Value).ownBlock ∧ some k_ ≠ (v9 : Value).ownBlock) v268 t267) ∧ Aside0 (Kd.R (Kd.int .i64) 2 w' w0.heap.size (fun k_ => (P2_ k_ ∨ w.heap.size ≤ k_) ∧ some k_ ≠ ((.slice Ao7 l2.length co7) : Value).ownBlock ∧ some k_ ≠ (v268 : Value).ownBlock) v9 x9_1) ∧ Aside0 (w'.heap[gb266]? = some (.cells #[.int .i64 a0_0, .int .i64 a0_1, .int .i64 a0_2] 25 (0, 0))) ∧ Aside0 (Kept w w' (fun k_ => P2_ k_)) ∧ Aside0 (Below w0.heap.size w0 w'))
  case atStart => exact ⟨(t271), (y272), (0), (zF), H', ⟨Nat.le_refl _⟩, ⟨zR HO2.out⟩, ⟨zR HO269.out⟩, ⟨zR HO274.out⟩, ⟨zB BK266.out⟩, ⟨zK1 HK.out GW266.out⟩, ⟨zH1 HB.out GE266.out⟩⟩
  case round =>
    clear H'
    try clear c1
    try clear c2
    try clear p2
    obtain ⟨x2_1, x9_1, x10_1, rfl, HA, HK1, HO_2, HO_7, HO_9, BK266, HK, HB⟩ := hrel
    have hl2_1 := (Kd.R_reads' HO_2.out).1
    rw [hl2_1] at HO_2
    (try simp only [hl2_1])
    (try simp only [hl2_1] at BK266)
    (try simp only [hl2_1] at HO_7)
    (try simp only [hl2_1] at HO_9)
    cases gk with
    | zero => exact absurd HA.out (by simp [spec_l03Best.l0])
    | succ k1 =>
      have H := HA.out
      clear HA
      simp only [spec_l03Best.l0] at H
      by_cases c14 : x10_1 < (t267.length : Int)
      · rw [if_pos c14] at H
        have c14b0 := decide_eq_true c14
        clear c14
        by_cases c15 : 0 ≤ x10_1
        · rw [if_pos c15] at H
          have c15b0 := decide_eq_true c15
          clear c15
          obtain ⟨⟨t276, t277⟩, A16, H⟩ := zb H; (try dsimp only at H)
          by_cases c17 : t276 = t270
          · rw [if_pos c17] at H
            have c17b0 := zq1 c17
            have c17b1 := zq2 c17
            clear c17
            by_cases c18 : x9_1.length < 17592186044416
            · rw [if_pos c18] at H
              have LMc18 := Aside0.mk c18
              clear c18
              obtain ⟨y279, hy279⟩ : ∃ y_ : List Int, y_ = (x9_1 ++ [rd t267 x10_1]) := ⟨_, rfl⟩
              replace H : (spec_l03Best.l0 k1 l1 t277 t267 t270 y279 (wrap64 (x10_1 + 1)) a0_0 a0_1 a0_2) = some (r1, r2) := by first | (rw [hy279]; with_reducible exact H) | (have H2_ := (Option.bind_some _ _).symm.trans H; rw [hy279]; with_reducible exact H2_) | (have H2_ := (Option.bind_some _ _).symm.trans H; with_reducible exact H2_) | with_reducible exact H | (rw [hy279]; exact H) | exact H
              have Ny279 := Aside0.mk hy279
              clear hy279
              have H' := Aside0.mk H
              clear H
              obtain ⟨Ao19, co19, eo19⟩ := Kd.R_slice HO_7.out
              subst eo19
              try go_wp2
              refine zA6 (Kd.R_drew HO_2.out) (Kd.R_drew HO_7.out) (Kd.R_drew HO_9.out) (blk_drew BK266.out) (Kept.drew HK.out) (below_drew1 HB.out) ?_
              clear HO_2 HO_7 HO_9 BK266 HK HB
              intro HO_2 HO_7 HO_9 BK266 HK HB
              have p275 : 0 ≤ (x10_1 : Int) := of_decide_eq_true (by first | (with_reducible assumption) | assumption)
              have q275 : x10_1 < (t267.length : Int) := of_decide_eq_true (by first | (with_reducible assumption) | assumption)
              obtain ⟨ad275, e275, hx275_0⟩ := Kd.at_int (Kd.R_reads' HO_7.out).2.2 x10_1 p275 q275
              cases e275
              replace p275 := eq_true p275
              replace q275 := eq_true q275
              refine start_ (n := 10) (S := fun w' => w'.cell? ⟨gb266, 0, none⟩ = some (.int .i64 a0_0) ∧ w'.cell? ⟨gb266, 1, none⟩ = some (.int .i64 a0_1) ∧ w'.cell? ⟨gb266, 2, none⟩ = some (.int .i64 a0_2) ∧ w'.cell? (ad275.add (x10_1).toNat) = some (.int .i64 (rd t267 x10_1))) (ds := []) #[false, false, false, false, false, false, false, false, false, false] (by kernel_rfl) rfl rfl ⟨(blk_cell BK266.out 0).trans rfl, (blk_cell BK266.out 1).trans rfl, (blk_cell BK266.out 2).trans rfl, hx275_0⟩ (fun hHeld => ?_); refine with_tabW spec_l03Best.tab5 spec_l03Best.bits5 (fun HT_ HW_ => ?_)
              generalize wr.drew = w20 at HO_2 HO_7 HO_9 BK266 HK HB hx275_0 hHeld ⊢
              refine zP HT_ 1 (some 25) rfl rfl ?_
              refine zP HT_ 2 (some 26) rfl rfl ?_
              refine zP HT_ 3 (some 27) rfl rfl ?_
              refine zP HT_ 5 (some 29) rfl rfl ?_
              refine zP HT_ 6 (some 30) rfl rfl ?_
              refine zP HT_ 8 (some 32) rfl rfl ?_
              refine zT HT_ HW_ hHeld 0 (some 24) rfl rfl ?_
              refine zT HT_ HW_ hHeld 4 (some 28) rfl rfl ?_
              refine one_ (i := 7) (N := some 31) #[true, true, true, true, true, true, true, true, true, false] rfl rfl (one_of HT_.out (by kernel_rfl)) (by decide) (fun K hK => ?_)
              refine goes_ Try.func53 (by kernel_rfl) rfl #[.agg #[.int .i64 a0_0, .int .i64 a0_1, .int .i64 a0_2], .int .i64 (rd t267 x10_1), .slice A1 l1.length c1, .slice Ao7 x2_1.length co7] (by rfl) rfl rfl zM ?_
              with_reducible refine (spec_l03Behind.calls k1 a0_0 a0_1 a0_2 (rd t267 x10_1) _ _ l1 (fun k_ => some k_ = (.slice Ao7 x2_1.length co7 : Value).ownBlock) (.slice Ao7 x2_1.length co7) x2_1 t276 t277 w0 _ ?side1 ?side2 ?side3 ?side4 A16.out).mono ?_
              (case side1 => exact zH1 HB.out GE266.out)
              (case side2 => exact Kd.C_kept_call HR1.out (zK1 HK.out GW266.out) (fun k_ hs_ => (fun e_ => (HO_2.out.1 k_ e_.symm).1) hs_))
              (case side3 => exact HC1.out)
              (case side4 => exact Kd.R_tight rfl HO_2.out)
              rintro e w21 ⟨rfl, hy0, hb, hkp⟩
              have HS3_ := cell_kept (hHeld.2.2.2) hkp (by first | (rw [add_block]; exact (fun hs_ => (((HO_7.out).1 _ rfl).2.1) hs_)) | (show ¬ _; simp only [add_block]; exact (fun hs_ => (((HO_7.out).1 _ rfl).2.1) hs_)) | exact (fun hs_ => (((HO_7.out).1 _ rfl).2.1) hs_))
              refine ⟨_, rfl, ?_⟩
              refine zA6 (Kd.R_reok rfl hy0 (fun k_ e_ => HO_2.out.1 k_ e_)) (Kd.R_mono (ok' := fun k_ => (P2_ k_ ∨ w.heap.size ≤ k_) ∧ some k_ ≠ (.slice Ao7 x2_1.length co7 : Value).ownBlock ∧ some k_ ≠ (u9 : Value).ownBlock) (Kd.R_keptB (HO_7.out) hkp (fun k_ hk_ hs_ => (hk_.2.1) hs_)) (fun k_ hk_ => ⟨hk_.1.1, hk_.1.2.1, hk_.1.2.2⟩)) (Kd.R_mono (ok' := fun k_ => (P2_ k_ ∨ w.heap.size ≤ k_) ∧ some k_ ≠ (.slice Ao7 x2_1.length co7 : Value).ownBlock ∧ some k_ ≠ (.slice (some ad275) t267.length co19 : Value).ownBlock) (Kd.R_keptB (HO_9.out) hkp (fun k_ hk_ hs_ => (hk_.2.1) hs_)) (fun k_ hk_ => ⟨hk_.1.1, hk_.1.2.1, hk_.1.2.2⟩)) (blk_kept (zB BK266.out) hkp (fun hs_ => (fun e_ => (Kd.R_ne HO_2.out BK266.out (by decide)) e_) hs_)) (Kept.then_ (S := (fun k_ => P2_ k_)) (zK1 HK.out GW266.out) hkp (fun k_ hs_ => (fun e_ => (HO_2.out.1 k_ e_.symm).1) hs_)) (hb) ?_
              clear HO_2 HO_7 HO_9 BK266 HK HB
              intro HO_2 HO_7 HO_9 BK266 HK HB
              (try clear hb)
              (try clear hkp)
              (try clear hy0)
              refine hK.out _ _ ⟨(blk_cell BK266.out 0).trans rfl, (blk_cell BK266.out 1).trans rfl, (blk_cell BK266.out 2).trans rfl, HS3_⟩ (fun hHeld => ?_)
              clear hK K
              refine zW (some 31) ?_
              refine zP HT_ 9 (some 33) rfl rfl ?_
              refine done_ (done_of HT_.out (by kernel_rfl)) ?_
              have p278 : 0 ≤ (x10_1 : Int) := of_decide_eq_true (by first | (with_reducible assumption) | assumption)
              have q278 : x10_1 < (t267.length : Int) := of_decide_eq_true (by first | (with_reducible assumption) | assumption)
              obtain ⟨ad278, e278, hx278_0⟩ := Kd.at_int (Kd.R_reads' HO_7.out).2.2 x10_1 p278 q278
              obtain rfl : ad275 = ad278 := (by injection e278)
              replace p278 := eq_true p278
              replace q278 := eq_true q278
              try go_wp2_with (first | ((with_reducible refine gate_builtin (b := .append) (xs := #[.tmp 34, .tmp 39]) rfl ?_); at_builtin; refine Kd.R_append (Kd.int .i64) (w0 := w0) w0.heap.size rfl (.tmp 34) (.tmp 39) 29 2 (.int .i64 0) 8 rfl Try.underlying29 info2 rfl (by decide) (by omega) u9 x9_1 (rd t267 x10_1) [.int .i64 (rd t267 x10_1)] (fun k_ => (P2_ k_ ∨ w.heap.size ≤ k_) ∧ some k_ ≠ (.slice Ao7 x2_1.length co7 : Value).ownBlock ∧ some k_ ≠ (.slice (some ad275) t267.length co19 : Value).ownBlock) (fun _ => False) rfl rfl ?aP (fun _ hk => hk.elim) ?aF ?aO ?aB ?aS ?aL ?_; (case aP => exact rfl); (case aB => exact (zH1 HB.out GE266.out)); (case aF => exact (fun k_ hk => ⟨(.inr (Nat.le_trans (by first | exact HK.out.1 | exact (show Kept w _ (fun k_ => P2_ k_) from zK1 HK.out GW266.out).1) hk)), Kd.fresh' (Kd.R_lt (zR HO_2.out)) k_ hk, Kd.fresh' (Kd.R_lt (zR HO_7.out)) k_ hk⟩)); (case aO => exact (zR HO_9.out)); (case aS => exact (below_size (zH1 HB.out GE266.out))); (case aL => have := LMc18.out; omega); intro v280 w22 ho hb hg hat; rw [← Ny279.out] at ho; refine zA6 (Kd.R_after (ok := (fun k_ => (P2_ k_ ∨ w.heap.size ≤ k_) ∧ some k_ ≠ (.slice (some ad275) t267.length co19 : Value).ownBlock)) (zRm HO_2.out (fun _ hk => ⟨⟨hk.1, hk.2.1⟩, hk.2.2⟩)) hg hat) (Kd.R_after (ok := (fun k_ => (P2_ k_ ∨ w.heap.size ≤ k_) ∧ some k_ ≠ (.slice Ao7 x2_1.length co7 : Value).ownBlock)) (zRm HO_7.out (fun _ hk => ⟨⟨hk.1, hk.2.1⟩, hk.2.2⟩)) hg hat) (blk_grown (g := gb266) (o := .cells #[.int .i64 a0_0, .int .i64 a0_1, .int .i64 a0_2] 25 (0, 0)) (zB BK266.out) hg (Kd.R_ne HO_9.out BK266.out (by decide))) (hb) (Kept.of_grown (S := (fun k_ => P2_ k_)) hg (zK1 HK.out GW266.out) (fun k_ e_ => (HO_9.out.1 k_ e_).1)) (ho) ?_; clear HO_2 HO_7 BK266 HB HK HO_9; intro HO_2 HO_7 BK266 HB HK HO281; clear ho hb hg hat))
              (try simp only [← hl2_1])
              go_roundg k1
              case measure => have := HK1.out; omega
              case rel => exact ⟨(t277), (y279), (wrap64 (x10_1 + 1)), (zF), H', ⟨by have := HK1.out; omega⟩, ⟨by (try simp only [hl2_1]); exact zRm HO_2.out (fun _ hk => ⟨hk.1.1, ⟨hk.1.2, hk.2⟩⟩)⟩, ⟨by (try simp only [hl2_1]); exact zRm HO_7.out (fun _ hk => ⟨hk.1.1, ⟨hk.1.2, hk.2⟩⟩)⟩, ⟨by (try simp only [hl2_1]); exact zR HO281.out⟩, ⟨by (try simp only [hl2_1]); exact zB BK266.out⟩, ⟨zK1 HK.out GW266.out⟩, ⟨zH1 HB.out GE266.out⟩⟩
            · rw [if_neg c18] at H
              exact absurd H (by simp)
          · rw [if_neg c17] at H
            have c17b0 := zq3 c17
            have c17b1 := zq4 c17
            have H' := Aside0.mk H
            clear H
            obtain ⟨Ao23, co23, eo23⟩ := Kd.R_slice HO_7.out
            subst eo23
            try go_wp2
            refine zA6 (Kd.R_drew HO_2.out) (Kd.R_drew HO_7.out) (Kd.R_drew HO_9.out) (blk_drew BK266.out) (Kept.drew HK.out) (below_drew1 HB.out) ?_
            clear HO_2 HO_7 HO_9 BK266 HK HB
            intro HO_2 HO_7 HO_9 BK266 HK HB
            have p275 : 0 ≤ (x10_1 : Int) := of_decide_eq_true (by first | (with_reducible assumption) | assumption)
            have q275 : x10_1 < (t267.length : Int) := of_decide_eq_true (by first | (with_reducible assumption) | assumption)
            obtain ⟨ad275, e275, hx275_0⟩ := Kd.at_int (Kd.R_reads' HO_7.out).2.2 x10_1 p275 q275
            cases e275
            replace p275 := eq_true p275
            replace q275 := eq_true q275
            refine start_ (n := 10) (S := fun w' => w'.cell? ⟨gb266, 0, none⟩ = some (.int .i64 a0_0) ∧ w'.cell? ⟨gb266, 1, none⟩ = some (.int .i64 a0_1) ∧ w'.cell? ⟨gb266, 2, none⟩ = some (.int .i64 a0_2) ∧ w'.cell? (ad275.add (x10_1).toNat) = some (.int .i64 (rd t267 x10_1))) (ds := []) #[false, false, false, false, false, false, false, false, false, false] (by kernel_rfl) rfl rfl ⟨(blk_cell BK266.out 0).trans rfl, (blk_cell BK266.out 1).trans rfl, (blk_cell BK266.out 2).trans rfl, hx275_0⟩ (fun hHeld => ?_); refine with_tabW spec_l03Best.tab5 spec_l03Best.bits5 (fun HT_ HW_ => ?_)
            generalize wr.drew = w24 at HO_2 HO_7 HO_9 BK266 HK HB hx275_0 hHeld ⊢
            refine zP HT_ 1 (some 25) rfl rfl ?_
            refine zP HT_ 2 (some 26) rfl rfl ?_
            refine zP HT_ 3 (some 27) rfl rfl ?_
            refine zP HT_ 5 (some 29) rfl rfl ?_
            refine zP HT_ 6 (some 30) rfl rfl ?_
            refine zP HT_ 8 (some 32) rfl rfl ?_
            refine zT HT_ HW_ hHeld 0 (some 24) rfl rfl ?_
            refine zT HT_ HW_ hHeld 4 (some 28) rfl rfl ?_
            refine one_ (i := 7) (N := some 31) #[true, true, true, true, true, true, true, true, true, false] rfl rfl (one_of HT_.out (by kernel_rfl)) (by decide) (fun K hK => ?_)
            refine goes_ Try.func53 (by kernel_rfl) rfl #[.agg #[.int .i64 a0_0, .int .i64 a0_1, .int .i64 a0_2], .int .i64 (rd t267 x10_1), .slice A1 l1.length c1, .slice Ao7 x2_1.length co7] (by rfl) rfl rfl zM ?_
            with_reducible refine (spec_l03Behind.calls k1 a0_0 a0_1 a0_2 (rd t267 x10_1) _ _ l1 (fun k_ => some k_ = (.slice Ao7 x2_1.length co7 : Value).ownBlock) (.slice Ao7 x2_1.length co7) x2_1 t276 t277 w0 _ ?side1 ?side2 ?side3 ?side4 A16.out).mono ?_
            (case side1 => exact zH1 HB.out GE266.out)
            (case side2 => exact Kd.C_kept_call HR1.out (zK1 HK.out GW266.out) (fun k_ hs_ => (fun e_ => (HO_2.out.1 k_ e_.symm).1) hs_))
            (case side3 => exact HC1.out)
            (case side4 => exact Kd.R_tight rfl HO_2.out)
            rintro e w25 ⟨rfl, hy0, hb, hkp⟩
            have HS3_ := cell_kept (hHeld.2.2.2) hkp (by first | (rw [add_block]; exact (fun hs_ => (((HO_7.out).1 _ rfl).2.1) hs_)) | (show ¬ _; simp only [add_block]; exact (fun hs_ => (((HO_7.out).1 _ rfl).2.1) hs_)) | exact (fun hs_ => (((HO_7.out).1 _ rfl).2.1) hs_))
            refine ⟨_, rfl, ?_⟩
            refine zA6 (Kd.R_reok rfl hy0 (fun k_ e_ => HO_2.out.1 k_ e_)) (Kd.R_mono (ok' := fun k_ => (P2_ k_ ∨ w.heap.size ≤ k_) ∧ some k_ ≠ (.slice Ao7 x2_1.length co7 : Value).ownBlock ∧ some k_ ≠ (u9 : Value).ownBlock) (Kd.R_keptB (HO_7.out) hkp (fun k_ hk_ hs_ => (hk_.2.1) hs_)) (fun k_ hk_ => ⟨hk_.1.1, hk_.1.2.1, hk_.1.2.2⟩)) (Kd.R_mono (ok' := fun k_ => (P2_ k_ ∨ w.heap.size ≤ k_) ∧ some k_ ≠ (.slice Ao7 x2_1.length co7 : Value).ownBlock ∧ some k_ ≠ (.slice (some ad275) t267.length co23 : Value).ownBlock) (Kd.R_keptB (HO_9.out) hkp (fun k_ hk_ hs_ => (hk_.2.1) hs_)) (fun k_ hk_ => ⟨hk_.1.1, hk_.1.2.1, hk_.1.2.2⟩)) (blk_kept (zB BK266.out) hkp (fun hs_ => (fun e_ => (Kd.R_ne HO_2.out BK266.out (by decide)) e_) hs_)) (Kept.then_ (S := (fun k_ => P2_ k_)) (zK1 HK.out GW266.out) hkp (fun k_ hs_ => (fun e_ => (HO_2.out.1 k_ e_.symm).1) hs_)) (hb) ?_
            clear HO_2 HO_7 HO_9 BK266 HK HB
            intro HO_2 HO_7 HO_9 BK266 HK HB
            (try clear hb)
            (try clear hkp)
            (try clear hy0)
            refine hK.out _ _ ⟨(blk_cell BK266.out 0).trans rfl, (blk_cell BK266.out 1).trans rfl, (blk_cell BK266.out 2).trans rfl, HS3_⟩ (fun hHeld => ?_)
            clear hK K
            refine zW (some 31) ?_
            refine zP HT_ 9 (some 33) rfl rfl ?_
            refine done_ (done_of HT_.out (by kernel_rfl)) ?_
            try go_wp2
            (try simp only [← hl2_1])
            go_roundg k1
            case measure => have := HK1.out; omega
            case rel => exact ⟨(t277), (x9_1), (wrap64 (x10_1 + 1)), (zF), H', ⟨by have := HK1.out; omega⟩, ⟨by (try simp only [hl2_1]); exact zR HO_2.out⟩, ⟨by (try simp only [hl2_1]); exact zR HO_7.out⟩, ⟨by (try simp only [hl2_1]); exact zR HO_9.out⟩, ⟨by (try simp only [hl2_1]); exact zB BK266.out⟩, ⟨zK1 HK.out GW266.out⟩, ⟨zH1 HB.out GE266.out⟩⟩
        · rw [if_neg c15] at H
          exact absurd H (by simp)
      · rw [if_neg c14] at H
        have c14b0 := decide_eq_false c14
        clear c14
        simp only [Option.some.injEq, Prod.mk.injEq] at H
        obtain ⟨rfl, rfl⟩ := H
        obtain ⟨Ao26, co26, eo26⟩ := Kd.R_slice HO_7.out
        subst eo26
        go_wp2
        go_ret
        exact ⟨_, zE, by (with_reducible repeat (first | apply Kd.R_alloc | apply Kd.R_drewN | apply Kd.R_drew)); exact Kd.R_mono HO_9.out (fun _ hk => ⟨hk.1, (by have h_ := hk.2.1; have e_ : ∀ (A : Option Addr) (n m c : Nat), (Value.slice A n c).ownBlock = (Value.slice A m c).ownBlock := (fun A n m c => by cases A <;> rfl); rw [e_ _ _ x2_1.length _]; exact h_)⟩), (by first | exact (zRm HO_2.out (fun _ hk => hk.1)) | (simp only [hl2_1]; exact (zRm HO_2.out (fun _ hk => hk.1)))), zH1 HB.out GE266.out, zK1 HK.out GW266.out⟩

/-! ### spec_BestEdges: function 9 -/
def spec_BestEdges.f (k : Nat) (a0_0 : Int) (a0_1 : Int) (a0_2 : Int) : Option (List Int × Int) := (spec_l03Given.f k a0_0 a0_1 a0_2).bind fun t283 => (if t283 = 0 then ((spec_l03Free.f k a0_0 a0_1 a0_2).bind fun t284 => ((spec_l03Table.f k t284).bind fun t287 => ((spec_l03Best.f k a0_0 a0_1 a0_2 t284 t287).bind fun bt290 => (some (bt290.1, 0))))) else (some (([] : List Int), t283)))
theorem spec_BestEdges.mono : ∀ a0 a1 a2 k, LeO (spec_BestEdges.f k a0 a1 a2) (spec_BestEdges.f (k + 1) a0 a1 a2) := by
  intro a0 a1 a2 k
  unfold spec_BestEdges.f
  repeat' first
      | (with_reducible exact spec_l03Best.mono _ _ _ _ _ _)
      | (with_reducible exact spec_l03Free.mono _ _ _ _)
      | (with_reducible exact spec_l03Given.mono _ _ _ _)
      | (with_reducible exact spec_l03Table.mono _ _)
      | (with_reducible exact LeO.refl _)
      | (with_reducible exact LeO.none _)
      | (with_reducible refine LeO.ite ?_ ?_)
      | (with_reducible refine LeO.bind ?_ (fun _ => ?_))
      | exact spec_l03Best.mono _ _ _ _ _ _
      | exact spec_l03Free.mono _ _ _ _
      | exact spec_l03Given.mono _ _ _ _
      | exact spec_l03Table.mono _ _
      | exact LeO.none _
      | refine LeO.ite ?_ ?_
      | refine LeO.bind ?_ (fun _ => ?_)
set_option maxHeartbeats 8000000 in
set_option maxRecDepth 100000 in
theorem spec_BestEdges.calls (k : Nat) (a0_0 : Int) (a0_1 : Int) (a0_2 : Int) (r1 : List Int) (r2 : Int) (w : World) (h : spec_BestEdges.f k a0_0 a0_1 a0_2 = some (r1, r2)) :
    Calls Try.prog 9 #[.agg #[.int .i64 a0_0, .int .i64 a0_1, .int .i64 a0_2]] w fun e w' => ∃ v0_ : Value, e = .returned (.tuple #[v0_, .int .i64 r2]) ∧ Kd.R (Kd.int .i64) 2 w' w.heap.size (fun _ => True) v0_ r1 ∧ Below w.heap.size w w' := by
  have hu25 := Try.underlying25
  have HB := Aside0.mk (Below.refl w.heap.size w)
  have H : ((spec_l03Given.f k a0_0 a0_1 a0_2).bind fun t283 => (if t283 = 0 then ((spec_l03Free.f k a0_0 a0_1 a0_2).bind fun t284 => ((spec_l03Table.f k t284).bind fun t287 => ((spec_l03Best.f k a0_0 a0_1 a0_2 t284 t287).bind fun bt290 => (some (bt290.1, 0))))) else (some (([] : List Int), t283)))) = some (r1, r2) := h
  clear h
  obtain ⟨t283, A2, H⟩ := zb H
  by_cases c3 : t283 = 0
  · rw [if_pos c3] at H
    have c3b0 := zq1 c3
    have c3b1 := zq2 c3
    clear c3
    obtain ⟨t284, A4, H⟩ := zb H
    obtain ⟨t287, A5, H⟩ := zb H
    obtain ⟨⟨t290, t293⟩, A6, H⟩ := zb H; (try dsimp only at H)
    simp only [Option.some.injEq, Prod.mk.injEq] at H
    obtain ⟨rfl, rfl⟩ := H
    go_enter Try.func9, Try.ntmps9
    try go_wp2_with (first | ((with_reducible refine gate_dst (N := 1) rfl ?_); refine zX 1 #[.int .i64 a0_0, .int .i64 a0_1, .int .i64 a0_2] 25 ?_; intro gb282 hg w7 hbox hb; refine zA4 (below_step (zH HB.out) hb) (hbox) ((zS hg (below_size (zH HB.out)) : w.heap.size ≤ gb282)) ((zS hg (below_size (zH HB.out)) : w.heap.size ≤ gb282)) ?_; clear HB; intro HB BK282 GW282 GE282; clear hb hbox hg; obtain ⟨hcz8_0, hcz8_1, hcz8_2⟩ := zc3 BK282; obtain ⟨hfz8_0, hfz8_1, hfz8_2⟩ := zf3 BK282) | ((with_reducible refine gate_callee (f := 23) rfl ?_); refine goesL_ (some 7) rfl rfl Try.func23 (by kernel_rfl) rfl #[.agg #[.int .i64 a0_0, .int .i64 a0_1, .int .i64 a0_2]] rfl zM ?_; (with_reducible refine (spec_l03Given.calls k a0_0 a0_1 a0_2 t283 _ A2.out).mono ?_); rintro e w9 ⟨rfl, hb⟩; refine ⟨_, rfl, ?_⟩; refine zA2 (blk_below (g := gb282) (o := .cells #[.int .i64 a0_0, .int .i64 a0_1, .int .i64 a0_2] 25 (0, 0)) (zB BK282.out) hb) (below_step (zH1 HB.out GE282.out) hb) ?_; clear BK282 HB; intro BK282 HB; (try clear hb); (try clear hb2); (try clear hk); (try clear hi); obtain ⟨hcz10_0, hcz10_1, hcz10_2⟩ := zc3 BK282; obtain ⟨hfz10_0, hfz10_1, hfz10_2⟩ := zf3 BK282) | ((with_reducible refine gate_callee (f := 24) rfl ?_); refine goesL_ (some 12) rfl rfl Try.func24 (by kernel_rfl) rfl #[.agg #[.int .i64 a0_0, .int .i64 a0_1, .int .i64 a0_2]] rfl zM ?_; (with_reducible refine (spec_l03Free.calls k a0_0 a0_1 a0_2 t284 _ A4.out).mono ?_); rintro e w11 ⟨v285, rfl, ho0, hb⟩; refine ⟨_, rfl, ?_⟩; refine zA3 (Kd.R_lower ho0 (below_size (zH1 HB.out GE282.out))) (blk_below (g := gb282) (o := .cells #[.int .i64 a0_0, .int .i64 a0_1, .int .i64 a0_2] 25 (0, 0)) (zB BK282.out) hb) (below_step (zH1 HB.out GE282.out) hb) ?_; clear BK282 HB; intro HO286 BK282 HB; (try clear hb); (try clear hb2); (try clear hk); (try clear hi); (try clear ho0)))
    refine zA3 (Kd.R_drew HO286.out) (blk_drew BK282.out) (below_drew1 HB.out) ?_
    clear HO286 BK282 HB
    intro HO286 BK282 HB
    obtain ⟨Ao13, co13, eo13⟩ := Kd.R_slice HO286.out
    (first | subst eo13 | (injection eo13 with f1_ f2_ f3_; have f4_ := f1_.symm; have f5_ := f3_.symm; clear f1_ f2_ f3_; subst f4_; subst f5_))
    refine start_ (n := 7) (S := fun w' => w'.cell? ⟨gb282, 0, none⟩ = some (.int .i64 a0_0) ∧ w'.cell? ⟨gb282, 1, none⟩ = some (.int .i64 a0_1) ∧ w'.cell? ⟨gb282, 2, none⟩ = some (.int .i64 a0_2)) (ds := []) #[false, false, false, false, false, false, false] (by kernel_rfl) rfl rfl ⟨(blk_cell BK282.out 0).trans rfl, (blk_cell BK282.out 1).trans rfl, (blk_cell BK282.out 2).trans rfl⟩ (fun hHeld => ?_)
    generalize w11.drew = w12 at HO286 BK282 HB hHeld ⊢
    refine pure_ (i := 1) (N := some 14) (v := ?_) (a' := ?_) #[false, true, false, false, false, false, false] rfl rfl (by kernel_rfl) (fun _ _ _ h => h) (Or.inl ⟨by rfl, ?_⟩) ?_ ?_
    rotate_left
    · intro w'
      go_simp
      with_reducible rfl
    rotate_left
    · simp only [Act.put, List.setIfInBounds_toArray, List.set_cons_zero, List.set_cons_succ, i64_w, i32_w]
      rfl
    refine pure_ (i := 2) (N := some 15) (v := ?_) (a' := ?_) #[false, true, true, false, false, false, false] rfl rfl (by kernel_rfl) (fun _ _ _ h => h) (Or.inl ⟨by rfl, ?_⟩) ?_ ?_
    rotate_left
    · intro w'
      go_simp
      with_reducible rfl
    rotate_left
    · simp only [Act.put, List.setIfInBounds_toArray, List.set_cons_zero, List.set_cons_succ, i64_w, i32_w]
      rfl
    refine take_ (i := 0) (N := some 13) (v := ?_) (a' := ?_) #[true, true, true, false, false, false, false] rfl rfl (by kernel_rfl) (fun _ _ _ h => h) (Or.inl ⟨by rfl, ?_⟩) hHeld ?_ ?_
    rotate_left
    · rintro w' ⟨s0, s1, s2⟩
      go_simp
      with_reducible rfl
    rotate_left
    · simp only [Act.put, List.setIfInBounds_toArray, List.set_cons_zero, List.set_cons_succ, i64_w, i32_w]
      rfl
    refine one_ (i := 3) (N := some 16) #[true, true, true, true, false, false, false] rfl rfl (by kernel_rfl) (by decide) (fun K hK => ?_)
    refine goes_ Try.func26 (by kernel_rfl) rfl #[.slice Ao13 t284.length co13] (by rfl) rfl rfl zM ?_
    with_reducible refine (spec_l03Table.calls k _ _ t284 t287 _ ?side1 ?side2 A5.out).mono ?_
    (case side1 => repeat (first | exact (Kd.R_reads' HO286.out).2.2 | (with_reducible refine Kd.C_alloc ?_ _) | (with_reducible refine Kd.C_drewN ?_ _) | (with_reducible refine Kd.C_drew ?_)))
    (case side2 => exact (Kd.R_reads' HO286.out).2.1)
    rintro e w14 ⟨v288, rfl, ho0, hb⟩
    refine ⟨_, rfl, ?_⟩
    refine zA4 (Kd.R_elder' (zR HO286.out) (Kd.R_base ho0) hb) (Kd.R_lower (Kd.R_new' ho0 (Kd.R_lt (zR HO286.out))) (below_size (zH1 HB.out GE282.out))) (blk_below (g := gb282) (o := .cells #[.int .i64 a0_0, .int .i64 a0_1, .int .i64 a0_2] 25 (0, 0)) (zB BK282.out) hb) (below_step (zH1 HB.out GE282.out) hb) ?_
    clear HO286 BK282 HB
    intro HO286 HO289 BK282 HB
    (try clear hb)
    (try clear hb2)
    (try clear hk)
    (try clear hi)
    (try clear ho0)
    obtain ⟨Ao15, co15, eo15⟩ := Kd.R_slice HO289.out
    (first | subst eo15 | (injection eo15 with f1_ f2_ f3_; have f4_ := f1_.symm; have f5_ := f3_.symm; clear f1_ f2_ f3_; subst f4_; subst f5_))
    refine hK.out _ _ ⟨(blk_cell BK282.out 0).trans rfl, (blk_cell BK282.out 1).trans rfl, (blk_cell BK282.out 2).trans rfl⟩ (fun hHeld => ?_)
    clear hK K
    refine zW (some 16) ?_
    refine one_ (i := 4) (N := some 17) #[true, true, true, true, true, false, false] rfl rfl (by kernel_rfl) (by decide) (fun K hK => ?_)
    refine goes_ Try.func28 (by kernel_rfl) rfl #[.agg #[.int .i64 a0_0, .int .i64 a0_1, .int .i64 a0_2], .slice Ao13 t284.length co13, .slice Ao15 t287.length co15] (by rfl) rfl rfl zM ?_
    with_reducible refine (spec_l03Best.calls k a0_0 a0_1 a0_2 _ _ t284 (fun k_ => some k_ = (.slice Ao15 t287.length co15 : Value).ownBlock) (.slice Ao15 t287.length co15) t287 t290 t293 w _ ?side1 ?side2 ?side3 ?side4 A6.out).mono ?_
    (case side1 => exact zH1 HB.out GE282.out)
    (case side2 => exact Kd.C_kept_own (HO286.out) (fun k_ hk_ hs_ => (hk_.2) hs_))
    (case side3 => exact (Kd.R_reads' HO286.out).2.1)
    (case side4 => exact Kd.R_tight rfl HO289.out)
    rintro e w16 ⟨v291, rfl, ho0, hy0, hb, hkp⟩
    refine ⟨_, rfl, ?_⟩
    refine zA5 (blk_kept (zB BK282.out) hkp (fun hs_ => (fun e_ => (Kd.R_ne HO289.out BK282.out (by decide)) e_) hs_)) (Kd.R_mono (ok' := fun k_ => some k_ ≠ (.slice Ao15 t287.length co15 : Value).ownBlock ∧ some k_ ≠ (v291 : Value).ownBlock) (Kd.R_keptB (HO286.out) hkp (fun k_ hk_ hs_ => (hk_.2) hs_)) (fun k_ hk_ => ⟨hk_.1.2, fun e_ => Or.elim (ho0.1 k_ e_.symm).1 (fun hs_ => hk_.2.1 hs_) (fun hn_ => Nat.not_le.2 hk_.2.2 hn_)⟩)) (Kd.R_reok rfl hy0 (fun k_ e_ => HO289.out.1 k_ e_)) (Kd.R_mono (ok' := fun k_ => some k_ ≠ (.slice Ao13 t284.length co13 : Value).ownBlock ∧ some k_ ≠ (.slice Ao15 t287.length co15 : Value).ownBlock) ho0 (fun k_ hk_ => ⟨Or.elim hk_.1 (fun hs_ => fun e_ => (((HO286.out).1 k_ e_.symm).2) hs_) (fun hn_ => (Kd.fresh' (Kd.R_lt (zR HO286.out)) k_ hn_)), hk_.2⟩)) (hb) ?_
    clear BK282 HO286 HO289 HB
    intro BK282 HO286 HO289 HO292 HB
    (try clear hb)
    (try clear hkp)
    (try clear ho0)
    (try clear hy0)
    refine hK.out _ _ ⟨(blk_cell BK282.out 0).trans rfl, (blk_cell BK282.out 1).trans rfl, (blk_cell BK282.out 2).trans rfl⟩ (fun hHeld => ?_)
    clear hK K
    refine zW (some 17) ?_
    refine pure_ (i := 5) (N := some 2) (v := ?_) (a' := ?_) #[true, true, true, true, true, true, false] rfl rfl (by kernel_rfl) (fun _ _ _ h => h) (Or.inl ⟨by rfl, ?_⟩) ?_ ?_
    rotate_left
    · intro w'
      go_simp
      with_reducible rfl
    rotate_left
    · simp only [Act.put, List.setIfInBounds_toArray, List.set_cons_zero, List.set_cons_succ, i64_w, i32_w]
      rfl
    refine pure_ (i := 6) (N := some 3) (v := ?_) (a' := ?_) #[true, true, true, true, true, true, true] rfl rfl (by kernel_rfl) (fun _ _ _ h => h) (Or.inl ⟨by rfl, ?_⟩) ?_ ?_
    rotate_left
    · intro w'
      go_simp
      with_reducible rfl
    rotate_left
    · simp only [Act.put, List.setIfInBounds_toArray, List.set_cons_zero, List.set_cons_succ, i64_w, i32_w]
      rfl
    refine done_ (by kernel_rfl) ?_
    try go_wp2
    go_ret2
    exact ⟨_, zE, by (with_reducible repeat (first | apply Kd.R_alloc | apply Kd.R_drewN | apply Kd.R_drew)); exact Kd.R_mono HO292.out (fun _ hk => trivial), zH1 HB.out GE282.out⟩
  · rw [if_neg c3] at H
    have c3b0 := zq3 c3
    have c3b1 := zq4 c3
    simp only [Option.some.injEq, Prod.mk.injEq] at H
    obtain ⟨rfl, rfl⟩ := H
    go_enter Try.func9, Try.ntmps9
    go_wp2_with (first | ((with_reducible refine gate_dst (N := 1) rfl ?_); refine zX 1 #[.int .i64 a0_0, .int .i64 a0_1, .int .i64 a0_2] 25 ?_; intro gb282 hg w17 hbox hb; refine zA4 (below_step (zH HB.out) hb) (hbox) ((zS hg (below_size (zH HB.out)) : w.heap.size ≤ gb282)) ((zS hg (below_size (zH HB.out)) : w.heap.size ≤ gb282)) ?_; clear HB; intro HB BK282 GW282 GE282; clear hb hbox hg; obtain ⟨hcz18_0, hcz18_1, hcz18_2⟩ := zc3 BK282; obtain ⟨hfz18_0, hfz18_1, hfz18_2⟩ := zf3 BK282) | ((with_reducible refine gate_callee (f := 23) rfl ?_); refine goesL_ (some 7) rfl rfl Try.func23 (by kernel_rfl) rfl #[.agg #[.int .i64 a0_0, .int .i64 a0_1, .int .i64 a0_2]] rfl zM ?_; (with_reducible refine (spec_l03Given.calls k a0_0 a0_1 a0_2 t283 _ A2.out).mono ?_); rintro e w19 ⟨rfl, hb⟩; refine ⟨_, rfl, ?_⟩; refine zA2 (blk_below (g := gb282) (o := .cells #[.int .i64 a0_0, .int .i64 a0_1, .int .i64 a0_2] 25 (0, 0)) (zB BK282.out) hb) (below_step (zH1 HB.out GE282.out) hb) ?_; clear BK282 HB; intro BK282 HB; (try clear hb); (try clear hb2); (try clear hk); (try clear hi)))
    go_ret2
    exact ⟨_, zE, by first | exact Kd.R_nil _ _ _ _ _ | exact Kd.N_nil _ _ _ _ _ | exact Kd.V_nil _ _ _ _ _ | exact Kd.Q_nil _ _ _ _ _ | exact Kd.S_nil _ _ _ _ _, zH1 HB.out GE282.out⟩

/-! ### spec_PlayBoxes: function 11 -/
def spec_PlayBoxes.l0 : Nat → List Int → List Int → List Int → Int → Int → Int → Option (List Int × Int)
  | 0, _, _, _, _, _, _ => none
  | k + 1, x5, x6, x7, x295000, x295001, x295002 => if (x6.length : Int) < (x5.length : Int) then ((spec_l03Best.f k x295000 x295001 x295002 x5 x7).bind fun bt305 => (if 0 < (bt305.1.length : Int) then (if x6.length < 17592186044416 then ((spec_l03Move.f k x295000 x295001 x295002 (rd bt305.1 0)).bind fun bt313 => (spec_PlayBoxes.l0 k x5 (x6 ++ [rd bt305.1 0]) bt305.2 bt313.1 bt313.2.1 bt313.2.2.1)) else (none)) else (none))) else (some (x6, 0))
def spec_PlayBoxes.f (k : Nat) (a0_0 : Int) (a0_1 : Int) (a0_2 : Int) : Option (List Int × Int) := (spec_l03Given.f k a0_0 a0_1 a0_2).bind fun t295 => (if t295 = 0 then ((spec_l03Free.f k a0_0 a0_1 a0_2).bind fun t296 => ((spec_l03Table.f k t296).bind fun t302 => (spec_PlayBoxes.l0 k t296 (([] : List Int)) t302 a0_0 a0_1 a0_2))) else (some (([] : List Int), t295)))
theorem spec_PlayBoxes.mono_l : ∀ k, (∀ y0 y1 y2 y3 y4 y5, LeO (spec_PlayBoxes.l0 k y0 y1 y2 y3 y4 y5) (spec_PlayBoxes.l0 (k + 1) y0 y1 y2 y3 y4 y5))
  | 0 => fun _ _ _ _ _ _ r h => by simp [spec_PlayBoxes.l0] at h
  | k + 1 => by
    have ih0 := spec_PlayBoxes.mono_l k
    · intro y0 y1 y2 y3 y4 y5
      unfold spec_PlayBoxes.l0
      repeat' first
      | (with_reducible exact ih0 _ _ _ _ _ _)
      | (with_reducible exact spec_l03Best.mono _ _ _ _ _ _)
      | (with_reducible exact spec_l03Free.mono _ _ _ _)
      | (with_reducible exact spec_l03Given.mono _ _ _ _)
      | (with_reducible exact spec_l03Move.mono _ _ _ _ _)
      | (with_reducible exact spec_l03Table.mono _ _)
      | (with_reducible exact LeO.refl _)
      | (with_reducible exact LeO.none _)
      | (with_reducible refine LeO.ite ?_ ?_)
      | (with_reducible refine LeO.bind ?_ (fun _ => ?_))
      | exact ih0 _ _ _ _ _ _
      | exact spec_l03Best.mono _ _ _ _ _ _
      | exact spec_l03Free.mono _ _ _ _
      | exact spec_l03Given.mono _ _ _ _
      | exact spec_l03Move.mono _ _ _ _ _
      | exact spec_l03Table.mono _ _
      | exact LeO.none _
      | refine LeO.ite ?_ ?_
      | refine LeO.bind ?_ (fun _ => ?_)
theorem spec_PlayBoxes.mono : ∀ a0 a1 a2 k, LeO (spec_PlayBoxes.f k a0 a1 a2) (spec_PlayBoxes.f (k + 1) a0 a1 a2) := by
  intro a0 a1 a2 k
  have ih0 := spec_PlayBoxes.mono_l k
  unfold spec_PlayBoxes.f
  repeat' first
      | (with_reducible exact ih0 _ _ _ _ _ _)
      | (with_reducible exact spec_l03Best.mono _ _ _ _ _ _)
      | (with_reducible exact spec_l03Free.mono _ _ _ _)
      | (with_reducible exact spec_l03Given.mono _ _ _ _)
      | (with_reducible exact spec_l03Move.mono _ _ _ _ _)
      | (with_reducible exact spec_l03Table.mono _ _)
      | (with_reducible exact LeO.refl _)
      | (with_reducible exact LeO.none _)
      | (with_reducible refine LeO.ite ?_ ?_)
      | (with_reducible refine LeO.bind ?_ (fun _ => ?_))
      | exact ih0 _ _ _ _ _ _
      | exact spec_l03Best.mono _ _ _ _ _ _
      | exact spec_l03Free.mono _ _ _ _
      | exact spec_l03Given.mono _ _ _ _
      | exact spec_l03Move.mono _ _ _ _ _
      | exact spec_l03Table.mono _ _
      | exact LeO.none _
      | refine LeO.ite ?_ ?_
      | refine LeO.bind ?_ (fun _ => ?_)
set_option maxHeartbeats 8000000 in
set_option maxRecDepth 100000 in
theorem spec_PlayBoxes.calls (k : Nat) (a0_0 : Int) (a0_1 : Int) (a0_2 : Int) (r1 : List Int) (r2 : Int) (w : World) (h : spec_PlayBoxes.f k a0_0 a0_1 a0_2 = some (r1, r2)) :
    Calls Try.prog 11 #[.agg #[.int .i64 a0_0, .int .i64 a0_1, .int .i64 a0_2]] w fun e w' => ∃ v0_ : Value, e = .returned (.tuple #[v0_, .int .i64 r2]) ∧ Kd.R (Kd.int .i64) 2 w' w.heap.size (fun _ => True) v0_ r1 ∧ Below w.heap.size w w' := by
  have hu25 := Try.underlying25
  have HB := Aside0.mk (Below.refl w.heap.size w)
  have H : ((spec_l03Given.f k a0_0 a0_1 a0_2).bind fun t295 => (if t295 = 0 then ((spec_l03Free.f k a0_0 a0_1 a0_2).bind fun t296 => ((spec_l03Table.f k t296).bind fun t302 => (spec_PlayBoxes.l0 k t296 (([] : List Int)) t302 a0_0 a0_1 a0_2))) else (some (([] : List Int), t295)))) = some (r1, r2) := h
  clear h
  obtain ⟨t295, A2, H⟩ := zb H
  by_cases c3 : t295 = 0
  · rw [if_pos c3] at H
    have c3b0 := zq1 c3
    have c3b1 := zq2 c3
    clear c3
    obtain ⟨t296, A4, H⟩ := zb H
    obtain ⟨y299, hy299⟩ : ∃ y_ : List Int, y_ = (([] : List Int)) := ⟨_, rfl⟩
    replace H : ((spec_l03Table.f k t296).bind fun t302 => (spec_PlayBoxes.l0 k t296 y299 t302 a0_0 a0_1 a0_2)) = some (r1, r2) := by first | (rw [hy299]; with_reducible exact H) | (have H2_ := (Option.bind_some _ _).symm.trans H; rw [hy299]; with_reducible exact H2_) | (have H2_ := (Option.bind_some _ _).symm.trans H; with_reducible exact H2_) | with_reducible exact H | (rw [hy299]; exact H) | exact H
    have Ny299 := Aside0.mk hy299
    clear hy299
    obtain ⟨t302, A5, H⟩ := zb H
    have H' := Aside0.mk H
    clear H
    go_enter Try.func11, Try.ntmps11
    go_wp2_with (first | ((with_reducible refine gate_dst (N := 1) rfl ?_); refine zX 1 #[.int .i64 a0_0, .int .i64 a0_1, .int .i64 a0_2] 25 ?_; intro gb294 hg w6 hbox hb; refine zA4 (below_step (zH HB.out) hb) (hbox) ((zS hg (below_size (zH HB.out)) : w.heap.size ≤ gb294)) ((zS hg (below_size (zH HB.out)) : w.heap.size ≤ gb294)) ?_; clear HB; intro HB BK294 GW294 GE294; clear hb hbox hg; obtain ⟨hcz7_0, hcz7_1, hcz7_2⟩ := zc3 BK294; obtain ⟨hfz7_0, hfz7_1, hfz7_2⟩ := zf3 BK294) | ((with_reducible refine gate_callee (f := 23) rfl ?_); refine goesL_ (some 10) rfl rfl Try.func23 (by kernel_rfl) rfl #[.agg #[.int .i64 a0_0, .int .i64 a0_1, .int .i64 a0_2]] rfl zM ?_; (with_reducible refine (spec_l03Given.calls k a0_0 a0_1 a0_2 t295 _ A2.out).mono ?_); rintro e w8 ⟨rfl, hb⟩; refine ⟨_, rfl, ?_⟩; refine zA2 (blk_below (g := gb294) (o := .cells #[.int .i64 a0_0, .int .i64 a0_1, .int .i64 a0_2] 25 (0, 0)) (zB BK294.out) hb) (below_step (zH1 HB.out GE294.out) hb) ?_; clear BK294 HB; intro BK294 HB; (try clear hb); (try clear hb2); (try clear hk); (try clear hi); obtain ⟨hcz9_0, hcz9_1, hcz9_2⟩ := zc3 BK294; obtain ⟨hfz9_0, hfz9_1, hfz9_2⟩ := zf3 BK294) | ((with_reducible refine gate_callee (f := 24) rfl ?_); refine goesL_ (some 15) rfl rfl Try.func24 (by kernel_rfl) rfl #[.agg #[.int .i64 a0_0, .int .i64 a0_1, .int .i64 a0_2]] rfl zM ?_; (with_reducible refine (spec_l03Free.calls k a0_0 a0_1 a0_2 t296 _ A4.out).mono ?_); rintro e w10 ⟨v297, rfl, ho0, hb⟩; refine ⟨_, rfl, ?_⟩; refine zA3 (Kd.R_lower ho0 (below_size (zH1 HB.out GE294.out))) (blk_below (g := gb294) (o := .cells #[.int .i64 a0_0, .int .i64 a0_1, .int .i64 a0_2] 25 (0, 0)) (zB BK294.out) hb) (below_step (zH1 HB.out GE294.out) hb) ?_; clear BK294 HB; intro HO298 BK294 HB; (try clear hb); (try clear hb2); (try clear hk); (try clear hi); (try clear ho0)) | ((with_reducible refine gate_dst (N := 16) rfl ?_); refine Kd.R_lit (Kd.int .i64) _ 2 ?hg (N := 16) ?hd (xs := ([] : List Int)) (inner := []) (ok := fun _ => True) (okp := fun _ => True) ?hr ?hp (fun _ hk => hk) trivial (Below.refl _ _) (Nat.le_refl _) (by simp) ?_; (case hd => rfl); (case hg => rfl); (case hr => first | (go_simp; done) | (go_simp; rfl)); (case hp => exact (Reps.none _ _)); intro v300 w11 ho12 hb hg_ hnew_; clear hg_ hnew_; (first | rw [← Ny299.out] at ho12 | (simp only [Int.reduceToNat] at ho12; rw [← Ny299.out] at ho12)); refine zA4 (Kd.R_elder' (zR HO298.out) (Kd.R_base ho12) hb) (Kd.R_lower (Kd.R_new' ho12 (Kd.R_lt (zR HO298.out))) (below_size (zH1 HB.out GE294.out))) (blk_below (g := gb294) (o := .cells #[.int .i64 a0_0, .int .i64 a0_1, .int .i64 a0_2] 25 (0, 0)) (zB BK294.out) hb) (below_step (zH1 HB.out GE294.out) hb) ?_; clear HO298 BK294 HB; intro HO298 HO301 BK294 HB; clear hb ho12; obtain ⟨Ao13, co13, eo13⟩ := Kd.R_slice HO298.out; subst eo13) | ((with_reducible refine gate_callee (f := 26) rfl ?_); refine goesL_ (some 18) rfl rfl Try.func26 (by kernel_rfl) rfl #[.slice Ao13 t296.length co13] rfl zM ?_; (with_reducible refine (spec_l03Table.calls k _ _ t296 t302 _ ?side1 ?side2 A5.out).mono ?_); (case side1 => repeat (first | exact (Kd.R_reads' HO298.out).2.2 | (with_reducible refine Kd.C_alloc ?_ _) | (with_reducible refine Kd.C_drewN ?_ _) | (with_reducible refine Kd.C_drew ?_))); (case side2 => exact (Kd.R_reads' HO298.out).2.1); rintro e w14 ⟨v303, rfl, ho0, hb⟩; refine ⟨_, rfl, ?_⟩; refine zA5 (Kd.R_elder' (zR HO298.out) (Kd.R_base ho0) hb) (Kd.R_elder' (zR HO301.out) (Kd.R_base ho0) hb) (Kd.R_lower (Kd.R_new' (Kd.R_new' ho0 (Kd.R_lt (zR HO298.out))) (Kd.R_lt (zR HO301.out))) (below_size (zH1 HB.out GE294.out))) (blk_below (g := gb294) (o := .cells #[.int .i64 a0_0, .int .i64 a0_1, .int .i64 a0_2] 25 (0, 0)) (zB BK294.out) hb) (below_step (zH1 HB.out GE294.out) hb) ?_; clear HO298 HO301 BK294 HB; intro HO298 HO301 HO304 BK294 HB; (try clear hb); (try clear hb2); (try clear hk); (try clear hi); (try clear ho0)))
    go_loopg [6] k (fun kq v6 w' => ∃ (x6_1 : List Int) (x7_1 : List Int) (x295000_1 : Int) (x295001_1 : Int) (x295002_1 : Int), Aside0 (spec_PlayBoxes.l0 kq t296 x6_1 x7_1 x295000_1 x295001_1 x295002_1 = some (r1, r2)) ∧ Aside0 (kq ≤ k) ∧ Aside0 (Kd.R (Kd.int .i64) 2 w' w.heap.size (fun k_ => some k_ ≠ (v6 : Value).ownBlock ∧ some k_ ≠ (v303 : Value).ownBlock) (.slice Ao13 t296.length co13) t296) ∧ Aside0 (Kd.R (Kd.int .i64) 2 w' w.heap.size (fun k_ => some k_ ≠ ((.slice Ao13 t296.length co13) : Value).ownBlock ∧ some k_ ≠ (v303 : Value).ownBlock) v6 x6_1) ∧ Aside0 (Kd.R (Kd.int .i64) 2 w' w.heap.size (fun k_ => some k_ ≠ ((.slice Ao13 t296.length co13) : Value).ownBlock ∧ some k_ ≠ (v6 : Value).ownBlock) v303 x7_1) ∧ Aside0 (w'.heap[gb294]? = some (.cells #[.int .i64 x295000_1, .int .i64 x295001_1, .int .i64 x295002_1] 25 (0, 0))) ∧ Aside0 (Below w.heap.size w w'))
    case atStart => exact ⟨(y299), (t302), (a0_0), (a0_1), (a0_2), H', ⟨Nat.le_refl _⟩, ⟨zRm HO298.out (fun _ hk => ⟨hk.1.2, hk.2⟩)⟩, ⟨zRm HO301.out (fun _ hk => ⟨hk.1.2, hk.2⟩)⟩, ⟨zRm HO304.out (fun _ hk => ⟨hk.1.2, hk.2⟩)⟩, ⟨zB BK294.out⟩, ⟨zH1 HB.out GE294.out⟩⟩
    case round =>
      clear H'
      try clear c1
      try clear c2
      try clear p2
      try clear c3
      try clear c3b0
      try clear c3b1
      try clear c11
      try clear hcz7_0
      try clear hcz7_1
      try clear hcz7_2
      try clear hcz9_0
      try clear hcz9_1
      try clear hcz9_2
      try clear hfz7_0
      try clear hfz7_1
      try clear hfz7_2
      try clear hfz9_0
      try clear hfz9_1
      try clear hfz9_2
      obtain ⟨x6_1, x7_1, x295000_1, x295001_1, x295002_1, HA, HK1, HO_5, HO_6, HO_7, BK294, HB⟩ := hrel
      cases gk with
      | zero => exact absurd HA.out (by simp [spec_PlayBoxes.l0])
      | succ k1 =>
        have H := HA.out
        clear HA
        simp only [spec_PlayBoxes.l0] at H
        by_cases c15 : (x6_1.length : Int) < (t296.length : Int)
        · rw [if_pos c15] at H
          have c15b0 := decide_eq_true c15
          have c15b1 : decide (x6_1.length < t296.length) = true := decide_eq_true (Int.ofNat_lt.mp c15)
          clear c15
          obtain ⟨⟨t305, t308⟩, A16, H⟩ := zb H; (try dsimp only at H)
          by_cases c17 : 0 < (t305.length : Int)
          · rw [if_pos c17] at H
            have c17b0 := decide_eq_true c17
            have c17b1 : decide (0 < t305.length) = true := decide_eq_true (by omega)
            clear c17
            by_cases c18 : x6_1.length < 17592186044416
            · rw [if_pos c18] at H
              have LMc18 := Aside0.mk c18
              clear c18
              obtain ⟨y310, hy310⟩ : ∃ y_ : List Int, y_ = (x6_1 ++ [rd t305 0]) := ⟨_, rfl⟩
              replace H : ((spec_l03Move.f k1 x295000_1 x295001_1 x295002_1 (rd t305 0)).bind fun bt313 => (spec_PlayBoxes.l0 k1 t296 y310 t308 bt313.1 bt313.2.1 bt313.2.2.1)) = some (r1, r2) := by first | (rw [hy310]; with_reducible exact H) | (have H2_ := (Option.bind_some _ _).symm.trans H; rw [hy310]; with_reducible exact H2_) | (have H2_ := (Option.bind_some _ _).symm.trans H; with_reducible exact H2_) | with_reducible exact H | (rw [hy310]; exact H) | exact H
              have Ny310 := Aside0.mk hy310
              clear hy310
              obtain ⟨⟨t313, t314, t315, t316⟩, A19, H⟩ := zb H; (try dsimp only at H)
              have H' := Aside0.mk H
              clear H
              obtain ⟨Ao20, co20, eo20⟩ := Kd.R_slice HO_6.out
              subst eo20
              obtain ⟨hcz21_0, hcz21_1, hcz21_2⟩ := zc3 BK294
              obtain ⟨hfz21_0, hfz21_1, hfz21_2⟩ := zf3 BK294
              obtain ⟨Ao22, co22, eo22⟩ := Kd.R_slice HO_7.out
              subst eo22
              go_wp2_with (first | ((with_reducible refine gate_callee (f := 28) rfl ?_); refine goesL_ (some 27) rfl rfl Try.func28 (by kernel_rfl) rfl #[.agg #[.int .i64 x295000_1, .int .i64 x295001_1, .int .i64 x295002_1], .slice Ao13 t296.length co13, .slice Ao22 x7_1.length co22] rfl zM ?_; (with_reducible refine (spec_l03Best.calls k1 x295000_1 x295001_1 x295002_1 _ _ t296 (fun k_ => some k_ = (.slice Ao22 x7_1.length co22 : Value).ownBlock) (.slice Ao22 x7_1.length co22) x7_1 t305 t308 w _ ?side1 ?side2 ?side3 ?side4 A16.out).mono ?_); (case side1 => exact zH1 HB.out GE294.out); (case side2 => exact Kd.C_kept_own (HO_5.out) (fun k_ hk_ hs_ => (hk_.2) hs_)); (case side3 => exact (Kd.R_reads' HO_5.out).2.1); (case side4 => exact Kd.R_tight rfl HO_7.out); rintro e w23 ⟨v306, rfl, ho0, hy0, hb, hkp⟩; refine ⟨_, rfl, ?_⟩; refine zA6 (Kd.R_mono (ok' := fun k_ => some k_ ≠ (.slice Ao20 x6_1.length co20 : Value).ownBlock ∧ some k_ ≠ (.slice Ao22 x7_1.length co22 : Value).ownBlock ∧ some k_ ≠ (v306 : Value).ownBlock) (Kd.R_keptB (HO_5.out) hkp (fun k_ hk_ hs_ => (hk_.2) hs_)) (fun k_ hk_ => ⟨hk_.1.1, hk_.1.2, fun e_ => Or.elim (ho0.1 k_ e_.symm).1 (fun hs_ => hk_.2.1 hs_) (fun hn_ => Nat.not_le.2 hk_.2.2 hn_)⟩)) (Kd.R_mono (ok' := fun k_ => some k_ ≠ (.slice Ao13 t296.length co13 : Value).ownBlock ∧ some k_ ≠ (.slice Ao22 x7_1.length co22 : Value).ownBlock ∧ some k_ ≠ (v306 : Value).ownBlock) (Kd.R_keptB (HO_6.out) hkp (fun k_ hk_ hs_ => (hk_.2) hs_)) (fun k_ hk_ => ⟨hk_.1.1, hk_.1.2, fun e_ => Or.elim (ho0.1 k_ e_.symm).1 (fun hs_ => hk_.2.1 hs_) (fun hn_ => Nat.not_le.2 hk_.2.2 hn_)⟩)) (Kd.R_reok rfl hy0 (fun k_ e_ => HO_7.out.1 k_ e_)) (blk_kept (zB BK294.out) hkp (fun hs_ => (fun e_ => (Kd.R_ne HO_7.out BK294.out (by decide)) e_) hs_)) (Kd.R_mono (ok' := fun k_ => some k_ ≠ (.slice Ao13 t296.length co13 : Value).ownBlock ∧ some k_ ≠ (.slice Ao20 x6_1.length co20 : Value).ownBlock ∧ some k_ ≠ (.slice Ao22 x7_1.length co22 : Value).ownBlock) ho0 (fun k_ hk_ => ⟨Or.elim hk_.1 (fun hs_ => fun e_ => (((HO_5.out).1 k_ e_.symm).2) hs_) (fun hn_ => (Kd.fresh' (Kd.R_lt (zR HO_5.out)) k_ hn_)), Or.elim hk_.1 (fun hs_ => fun e_ => (((HO_6.out).1 k_ e_.symm).2) hs_) (fun hn_ => (Kd.fresh' (Kd.R_lt (zR HO_6.out)) k_ hn_)), hk_.2⟩)) (hb) ?_; clear HO_5 HO_6 HO_7 BK294 HB; intro HO_5 HO_6 HO_7 BK294 HO307 HB; (try clear hb); (try clear hkp); (try clear ho0); (try clear hy0); obtain ⟨Ao24, co24, eo24⟩ := Kd.R_slice HO307.out; subst eo24; have p309 : 0 ≤ (0 : Int) := (by omega); have q309 : 0 < (t305.length : Int) := of_decide_eq_true (by first | (with_reducible assumption) | assumption); obtain ⟨ad309, e309, hx309_0⟩ := Kd.at_int (Kd.R_reads' HO307.out).2.2 0 p309 q309; cases e309; have qi309 : (0 < t305.length) = True := eq_true (by omega); (try rw [show ((0 : Int)).toNat = 0 from rfl] at hx309_0); (try rw [Addr.add_zero'] at hx309_0); replace p309 := eq_true p309; replace q309 := eq_true q309) | ((with_reducible refine gate_builtin (b := .append) (xs := #[.tmp 30, .tmp 32]) rfl ?_); at_builtin; refine Kd.R_append (Kd.int .i64) (w0 := w) w.heap.size rfl (.tmp 30) (.tmp 32) 29 2 (.int .i64 0) 8 rfl Try.underlying29 info2 rfl (by decide) (by omega) (.slice Ao20 x6_1.length co20) x6_1 (rd t305 0) [.int .i64 (rd t305 0)] (fun k_ => some k_ ≠ (.slice Ao13 t296.length co13 : Value).ownBlock ∧ some k_ ≠ (.slice Ao22 x7_1.length co22 : Value).ownBlock ∧ some k_ ≠ (.slice (some ad309) t305.length co24 : Value).ownBlock) (fun _ => False) rfl rfl ?aP (fun _ hk => hk.elim) ?aF ?aO ?aB ?aS ?aL ?_; (case aP => exact rfl); (case aB => exact (zH1 HB.out GE294.out)); (case aF => exact (fun k_ hk => ⟨Kd.fresh' (Kd.R_lt (zR HO_5.out)) k_ hk, Kd.fresh' (Kd.R_lt (zR HO_7.out)) k_ hk, Kd.fresh' (Kd.R_lt (zR HO307.out)) k_ hk⟩)); (case aO => exact (zR HO_6.out)); (case aS => exact (below_size (zH1 HB.out GE294.out))); (case aL => have := LMc18.out; omega); intro v311 w25 ho hb hg hat; rw [← Ny310.out] at ho; refine zA6 (Kd.R_after (ok := (fun k_ => some k_ ≠ (.slice Ao22 x7_1.length co22 : Value).ownBlock ∧ some k_ ≠ (.slice (some ad309) t305.length co24 : Value).ownBlock)) (zRm HO_5.out (fun _ hk => ⟨⟨hk.2.1, hk.2.2⟩, hk.1⟩)) hg hat) (Kd.R_after (ok := (fun k_ => some k_ ≠ (.slice Ao13 t296.length co13 : Value).ownBlock)) (zR HO_7.out) hg hat) (blk_grown (g := gb294) (o := .cells #[.int .i64 x295000_1, .int .i64 x295001_1, .int .i64 x295002_1] 25 (0, 0)) (zB BK294.out) hg (Kd.R_ne HO_6.out BK294.out (by decide))) (Kd.R_after (ok := (fun k_ => some k_ ≠ (.slice Ao13 t296.length co13 : Value).ownBlock ∧ some k_ ≠ (.slice Ao22 x7_1.length co22 : Value).ownBlock)) (zRm HO307.out (fun _ hk => ⟨⟨hk.1, hk.2.2⟩, hk.2.1⟩)) hg hat) (hb) (ho) ?_; clear HO_5 HO_7 BK294 HO307 HB HO_6; intro HO_5 HO_7 BK294 HO307 HB HO312; clear ho hb hg hat; obtain ⟨hcz26_0, hcz26_1, hcz26_2⟩ := zc3 BK294; obtain ⟨hfz26_0, hfz26_1, hfz26_2⟩ := zf3 BK294) | ((with_reducible refine gate_callee (f := 30) rfl ?_); refine goesL_ (some 37) rfl rfl Try.func30 (by kernel_rfl) rfl #[.agg #[.int .i64 x295000_1, .int .i64 x295001_1, .int .i64 x295002_1], .int .i64 (rd t305 0)] rfl zM ?_; (with_reducible refine (spec_l03Move.calls k1 x295000_1 x295001_1 x295002_1 (rd t305 0) t313 t314 t315 t316 _ A19.out).mono ?_); rintro e w27 ⟨rfl, hb⟩; refine ⟨_, rfl, ?_⟩; refine zA6 (Kd.R_below (zR HO_5.out) hb) (Kd.R_below (zR HO_7.out) hb) (Kd.R_below (zR HO307.out) hb) (Kd.R_below (zR HO312.out) hb) (blk_below (g := gb294) (o := .cells #[.int .i64 x295000_1, .int .i64 x295001_1, .int .i64 x295002_1] 25 (0, 0)) (zB BK294.out) hb) (below_step (zH1 HB.out GE294.out) hb) ?_; clear HO_5 HO_7 HO307 HO312 BK294 HB; intro HO_5 HO_7 HO307 HO312 BK294 HB; (try clear hb); (try clear hb2); (try clear hk); (try clear hi); obtain ⟨hcz28_0, hcz28_1, hcz28_2⟩ := zc3 BK294; obtain ⟨hfz28_0, hfz28_1, hfz28_2⟩ := zf3 BK294))
              go_roundg k1
              case measure => have := HK1.out; omega
              case rel => exact ⟨(y310), (t308), (t313), (t314), (t315), H', ⟨by have := HK1.out; omega⟩, ⟨zRm (Kd.R_far (p := ⟨gb294, 2, none⟩) (Kd.R_far (p := ⟨gb294, 1, none⟩) (Kd.R_far (p := ⟨gb294, 0, none⟩) (Kd.R_types HO_5.out BK294.out (by decide)) (fun _ hk => hk.2) (.int .i64 t313)) (fun _ hk => hk.2) (.int .i64 t314)) (fun _ hk => hk.2) (.int .i64 t315)) (fun _ hk => ⟨hk.1.2, hk.1.1.1⟩)⟩, ⟨zRm (Kd.R_far (p := ⟨gb294, 2, none⟩) (Kd.R_far (p := ⟨gb294, 1, none⟩) (Kd.R_far (p := ⟨gb294, 0, none⟩) (Kd.R_types HO312.out BK294.out (by decide)) (fun _ hk => hk.2) (.int .i64 t313)) (fun _ hk => hk.2) (.int .i64 t314)) (fun _ hk => hk.2) (.int .i64 t315)) (fun _ hk => ⟨hk.1.1, hk.1.2.1⟩)⟩, ⟨zRm (Kd.R_far (p := ⟨gb294, 2, none⟩) (Kd.R_far (p := ⟨gb294, 1, none⟩) (Kd.R_far (p := ⟨gb294, 0, none⟩) (Kd.R_types HO_7.out BK294.out (by decide)) (fun _ hk => hk.2) (.int .i64 t313)) (fun _ hk => hk.2) (.int .i64 t314)) (fun _ hk => hk.2) (.int .i64 t315)) (fun _ hk => ⟨hk.1.1, hk.1.2⟩)⟩, ⟨by (with_reducible repeat (first | refine blk_drewN ?_ _ | refine blk_drew ?_ | refine blk_alloc ?_ _)); refine blk_put (cs := #[.int .i64 t313, .int .i64 t314, .int .i64 x295002_1]) ?_ 2 _ rfl; (with_reducible repeat (first | refine blk_drewN ?_ _ | refine blk_drew ?_ | refine blk_alloc ?_ _)); refine blk_put (cs := #[.int .i64 t313, .int .i64 x295001_1, .int .i64 x295002_1]) ?_ 1 _ rfl; (with_reducible repeat (first | refine blk_drewN ?_ _ | refine blk_drew ?_ | refine blk_alloc ?_ _)); refine blk_put (cs := #[.int .i64 x295000_1, .int .i64 x295001_1, .int .i64 x295002_1]) ?_ 0 _ rfl; (with_reducible repeat (first | refine blk_drewN ?_ _ | refine blk_drew ?_ | refine blk_alloc ?_ _)); exact BK294.out⟩, ⟨zH1 HB.out GE294.out⟩⟩
            · rw [if_neg c18] at H
              exact absurd H (by simp)
          · rw [if_neg c17] at H
            exact absurd H (by simp)
        · rw [if_neg c15] at H
          have c15b0 := decide_eq_false c15
          have c15b1 : decide (x6_1.length < t296.length) = false := decide_eq_false (fun h => c15 (Int.ofNat_lt.mpr h))
          clear c15
          simp only [Option.some.injEq, Prod.mk.injEq] at H
          obtain ⟨rfl, rfl⟩ := H
          obtain ⟨Ao29, co29, eo29⟩ := Kd.R_slice HO_6.out
          subst eo29
          go_wp2
          go_ret2
          exact ⟨_, zE, by (with_reducible repeat (first | apply Kd.R_alloc | apply Kd.R_drewN | apply Kd.R_drew)); exact Kd.R_mono HO_6.out (fun _ hk => trivial), zH1 HB.out GE294.out⟩
  · rw [if_neg c3] at H
    have c3b0 := zq3 c3
    have c3b1 := zq4 c3
    simp only [Option.some.injEq, Prod.mk.injEq] at H
    obtain ⟨rfl, rfl⟩ := H
    go_enter Try.func11, Try.ntmps11
    go_wp2_with (first | ((with_reducible refine gate_dst (N := 1) rfl ?_); refine zX 1 #[.int .i64 a0_0, .int .i64 a0_1, .int .i64 a0_2] 25 ?_; intro gb294 hg w30 hbox hb; refine zA4 (below_step (zH HB.out) hb) (hbox) ((zS hg (below_size (zH HB.out)) : w.heap.size ≤ gb294)) ((zS hg (below_size (zH HB.out)) : w.heap.size ≤ gb294)) ?_; clear HB; intro HB BK294 GW294 GE294; clear hb hbox hg; obtain ⟨hcz31_0, hcz31_1, hcz31_2⟩ := zc3 BK294; obtain ⟨hfz31_0, hfz31_1, hfz31_2⟩ := zf3 BK294) | ((with_reducible refine gate_callee (f := 23) rfl ?_); refine goesL_ (some 10) rfl rfl Try.func23 (by kernel_rfl) rfl #[.agg #[.int .i64 a0_0, .int .i64 a0_1, .int .i64 a0_2]] rfl zM ?_; (with_reducible refine (spec_l03Given.calls k a0_0 a0_1 a0_2 t295 _ A2.out).mono ?_); rintro e w32 ⟨rfl, hb⟩; refine ⟨_, rfl, ?_⟩; refine zA2 (blk_below (g := gb294) (o := .cells #[.int .i64 a0_0, .int .i64 a0_1, .int .i64 a0_2] 25 (0, 0)) (zB BK294.out) hb) (below_step (zH1 HB.out GE294.out) hb) ?_; clear BK294 HB; intro BK294 HB; (try clear hb); (try clear hb2); (try clear hk); (try clear hi)))
    go_ret2
    exact ⟨_, zE, by first | exact Kd.R_nil _ _ _ _ _ | exact Kd.N_nil _ _ _ _ _ | exact Kd.V_nil _ _ _ _ _ | exact Kd.Q_nil _ _ _ _ _ | exact Kd.S_nil _ _ _ _ _, zH1 HB.out GE294.out⟩

/-! ### impl_FreeEdges: function 13 -/
def impl_FreeEdges.f (a0_0 : Int) (a0_1 : Int) (a0_2 : Int) : Option (List Int × Int) := (impl_IsBoxes.f a0_0 a0_1 a0_2).bind fun t320 => (if t320 = true then ((impl_Boxes_free.f a0_0 a0_1 a0_2).bind fun t321 => (some (t321, 0))) else (some (([] : List Int), 1)))
set_option maxHeartbeats 8000000 in
set_option maxRecDepth 100000 in
theorem impl_FreeEdges.calls (a0_0 : Int) (a0_1 : Int) (a0_2 : Int) (r1 : List Int) (r2 : Int) (w : World) (h : impl_FreeEdges.f a0_0 a0_1 a0_2 = some (r1, r2)) :
    Calls Try.prog 13 #[.agg #[.int .i64 a0_0, .int .i64 a0_1, .int .i64 a0_2]] w fun e w' => ∃ v0_ : Value, e = .returned (.tuple #[v0_, .int .i64 r2]) ∧ Kd.R (Kd.int .i64) 2 w' w.heap.size (fun _ => True) v0_ r1 ∧ Below w.heap.size w w' := by
  have hu25 := Try.underlying25
  have HB := Aside0.mk (Below.refl w.heap.size w)
  have H : ((impl_IsBoxes.f a0_0 a0_1 a0_2).bind fun t320 => (if t320 = true then ((impl_Boxes_free.f a0_0 a0_1 a0_2).bind fun t321 => (some (t321, 0))) else (some (([] : List Int), 1)))) = some (r1, r2) := h
  clear h
  obtain ⟨t320, A2, H⟩ := zb H
  by_cases c3 : t320 = true
  · subst c3
    have H1 : ((impl_Boxes_free.f a0_0 a0_1 a0_2).bind fun t321 => (some (t321, 0))) = some (r1, r2) := by rw [if_pos rfl] at H; exact H
    clear H
    have H := H1
    clear H1
    obtain ⟨t321, A4, H⟩ := zb H
    simp only [Option.some.injEq, Prod.mk.injEq] at H
    obtain ⟨rfl, rfl⟩ := H
    go_enter Try.func13, Try.ntmps13
    go_wp2_with (first | ((with_reducible refine gate_dst (N := 1) rfl ?_); refine zX 1 #[.int .i64 a0_0, .int .i64 a0_1, .int .i64 a0_2] 25 ?_; intro gb319 hg w5 hbox hb; refine zA4 (below_step (zH HB.out) hb) (hbox) ((zS hg (below_size (zH HB.out)) : w.heap.size ≤ gb319)) ((zS hg (below_size (zH HB.out)) : w.heap.size ≤ gb319)) ?_; clear HB; intro HB BK319 GW319 GE319; clear hb hbox hg; obtain ⟨hcz6_0, hcz6_1, hcz6_2⟩ := zc3 BK319; obtain ⟨hfz6_0, hfz6_1, hfz6_2⟩ := zf3 BK319) | ((with_reducible refine gate_callee (f := 31) rfl ?_); refine goesL_ (some 5) rfl rfl Try.func31 (by kernel_rfl) rfl #[.agg #[.int .i64 a0_0, .int .i64 a0_1, .int .i64 a0_2]] rfl zM ?_; (with_reducible refine (impl_IsBoxes.calls a0_0 a0_1 a0_2 true _ A2.out).mono ?_); rintro e w7 ⟨rfl, hb⟩; refine ⟨_, rfl, ?_⟩; refine zA2 (blk_below (g := gb319) (o := .cells #[.int .i64 a0_0, .int .i64 a0_1, .int .i64 a0_2] 25 (0, 0)) (zB BK319.out) hb) (below_step (zH1 HB.out GE319.out) hb) ?_; clear BK319 HB; intro BK319 HB; (try clear hb); (try clear hb2); (try clear hk); (try clear hi); obtain ⟨hcz8_0, hcz8_1, hcz8_2⟩ := zc3 BK319; obtain ⟨hfz8_0, hfz8_1, hfz8_2⟩ := zf3 BK319) | ((with_reducible refine gate_callee (f := 32) rfl ?_); refine goesL_ (some 8) rfl rfl Try.func32 (by kernel_rfl) rfl #[.agg #[.int .i64 a0_0, .int .i64 a0_1, .int .i64 a0_2]] rfl zM ?_; (with_reducible refine (impl_Boxes_free.calls a0_0 a0_1 a0_2 t321 _ A4.out).mono ?_); rintro e w9 ⟨v322, rfl, ho0, hb⟩; refine ⟨_, rfl, ?_⟩; refine zA3 (Kd.R_lower ho0 (below_size (zH1 HB.out GE319.out))) (blk_below (g := gb319) (o := .cells #[.int .i64 a0_0, .int .i64 a0_1, .int .i64 a0_2] 25 (0, 0)) (zB BK319.out) hb) (below_step (zH1 HB.out GE319.out) hb) ?_; clear BK319 HB; intro HO323 BK319 HB; (try clear hb); (try clear hb2); (try clear hk); (try clear hi); (try clear ho0)))
    go_ret2
    exact ⟨_, zE, by (with_reducible repeat (first | apply Kd.R_alloc | apply Kd.R_drewN | apply Kd.R_drew)); exact HO323.out, zH1 HB.out GE319.out⟩
  · replace c3 := Bool.eq_false_iff.mpr c3
    subst c3
    have H1 : (some (([] : List Int), 1)) = some (r1, r2) := by rw [if_neg (show ¬ (false = true) by decide)] at H; exact H
    clear H
    have H := H1
    clear H1
    simp only [Option.some.injEq, Prod.mk.injEq] at H
    obtain ⟨rfl, rfl⟩ := H
    go_enter Try.func13, Try.ntmps13
    go_wp2_with (first | ((with_reducible refine gate_dst (N := 1) rfl ?_); refine zX 1 #[.int .i64 a0_0, .int .i64 a0_1, .int .i64 a0_2] 25 ?_; intro gb319 hg w10 hbox hb; refine zA4 (below_step (zH HB.out) hb) (hbox) ((zS hg (below_size (zH HB.out)) : w.heap.size ≤ gb319)) ((zS hg (below_size (zH HB.out)) : w.heap.size ≤ gb319)) ?_; clear HB; intro HB BK319 GW319 GE319; clear hb hbox hg; obtain ⟨hcz11_0, hcz11_1, hcz11_2⟩ := zc3 BK319; obtain ⟨hfz11_0, hfz11_1, hfz11_2⟩ := zf3 BK319) | ((with_reducible refine gate_callee (f := 31) rfl ?_); refine goesL_ (some 5) rfl rfl Try.func31 (by kernel_rfl) rfl #[.agg #[.int .i64 a0_0, .int .i64 a0_1, .int .i64 a0_2]] rfl zM ?_; (with_reducible refine (impl_IsBoxes.calls a0_0 a0_1 a0_2 false _ A2.out).mono ?_); rintro e w12 ⟨rfl, hb⟩; refine ⟨_, rfl, ?_⟩; refine zA2 (blk_below (g := gb319) (o := .cells #[.int .i64 a0_0, .int .i64 a0_1, .int .i64 a0_2] 25 (0, 0)) (zB BK319.out) hb) (below_step (zH1 HB.out GE319.out) hb) ?_; clear BK319 HB; intro BK319 HB; (try clear hb); (try clear hb2); (try clear hk); (try clear hi)))
    go_ret2
    exact ⟨_, zE, by first | exact Kd.R_nil _ _ _ _ _ | exact Kd.N_nil _ _ _ _ _ | exact Kd.V_nil _ _ _ _ _ | exact Kd.Q_nil _ _ _ _ _ | exact Kd.S_nil _ _ _ _ _, zH1 HB.out GE319.out⟩

/-! ### impl_BoxesWith: function 33 -/
def impl_BoxesWith.f (k : Nat) (a0_0 : Int) (a0_1 : Int) (a0_2 : Int) (a1 : Int) : Option (List Int × Int) := (impl_boxesCode.f k a0_0 a0_1 a0_2 a1 5).bind fun t332 => (if t332 = 0 then ((impl_Boxes_with.f k a0_0 a0_1 a0_2 a1).bind fun t333 => (some (t333, 0))) else (some (([] : List Int), t332)))
theorem impl_BoxesWith.mono : ∀ a0 a1 a2 a3 k, LeO (impl_BoxesWith.f k a0 a1 a2 a3) (impl_BoxesWith.f (k + 1) a0 a1 a2 a3) := by
  intro a0 a1 a2 a3 k
  unfold impl_BoxesWith.f
  repeat' first
      | (with_reducible exact impl_Boxes_with.mono _ _ _ _ _)
      | (with_reducible exact impl_boxesCode.mono _ _ _ _ _ _)
      | (with_reducible exact LeO.refl _)
      | (with_reducible exact LeO.none _)
      | (with_reducible refine LeO.ite ?_ ?_)
      | (with_reducible refine LeO.bind ?_ (fun _ => ?_))
      | exact impl_Boxes_with.mono _ _ _ _ _
      | exact impl_boxesCode.mono _ _ _ _ _ _
      | exact LeO.none _
      | refine LeO.ite ?_ ?_
      | refine LeO.bind ?_ (fun _ => ?_)
set_option maxHeartbeats 8000000 in
set_option maxRecDepth 100000 in
theorem impl_BoxesWith.calls (k : Nat) (a0_0 : Int) (a0_1 : Int) (a0_2 : Int) (a1 : Int) (r1 : List Int) (r2 : Int) (w : World) (h : impl_BoxesWith.f k a0_0 a0_1 a0_2 a1 = some (r1, r2)) :
    Calls Try.prog 33 #[.agg #[.int .i64 a0_0, .int .i64 a0_1, .int .i64 a0_2], .int .i64 a1] w fun e w' => ∃ v0_ : Value, e = .returned (.tuple #[v0_, .int .i64 r2]) ∧ Kd.R (Kd.int .i64) 2 w' w.heap.size (fun _ => True) v0_ r1 ∧ Below w.heap.size w w' := by
  have hu25 := Try.underlying25
  have HB := Aside0.mk (Below.refl w.heap.size w)
  have H : ((impl_boxesCode.f k a0_0 a0_1 a0_2 a1 5).bind fun t332 => (if t332 = 0 then ((impl_Boxes_with.f k a0_0 a0_1 a0_2 a1).bind fun t333 => (some (t333, 0))) else (some (([] : List Int), t332)))) = some (r1, r2) := h
  clear h
  obtain ⟨t332, A3, H⟩ := zb H
  by_cases c4 : t332 = 0
  · rw [if_pos c4] at H
    have c4b0 := zq1 c4
    have c4b1 := zq2 c4
    clear c4
    obtain ⟨t333, A5, H⟩ := zb H
    simp only [Option.some.injEq, Prod.mk.injEq] at H
    obtain ⟨rfl, rfl⟩ := H
    go_enter Try.func33, Try.ntmps33
    go_wp2_with (first | ((with_reducible refine gate_dst (N := 2) rfl ?_); refine zX 2 #[.int .i64 a0_0, .int .i64 a0_1, .int .i64 a0_2] 25 ?_; intro gb331 hg w6 hbox hb; refine zA4 (below_step (zH HB.out) hb) (hbox) ((zS hg (below_size (zH HB.out)) : w.heap.size ≤ gb331)) ((zS hg (below_size (zH HB.out)) : w.heap.size ≤ gb331)) ?_; clear HB; intro HB BK331 GW331 GE331; clear hb hbox hg; obtain ⟨hcz7_0, hcz7_1, hcz7_2⟩ := zc3 BK331; obtain ⟨hfz7_0, hfz7_1, hfz7_2⟩ := zf3 BK331) | ((with_reducible refine gate_callee (f := 34) rfl ?_); refine goesL_ (some 9) rfl rfl Try.func34 (by kernel_rfl) rfl #[.agg #[.int .i64 a0_0, .int .i64 a0_1, .int .i64 a0_2], .int .i64 a1, .int .i64 5] rfl zM ?_; (with_reducible refine (impl_boxesCode.calls k a0_0 a0_1 a0_2 a1 5 t332 _ A3.out).mono ?_); rintro e w8 ⟨rfl, hb⟩; refine ⟨_, rfl, ?_⟩; refine zA2 (blk_below (g := gb331) (o := .cells #[.int .i64 a0_0, .int .i64 a0_1, .int .i64 a0_2] 25 (0, 0)) (zB BK331.out) hb) (below_step (zH1 HB.out GE331.out) hb) ?_; clear BK331 HB; intro BK331 HB; (try clear hb); (try clear hb2); (try clear hk); (try clear hi); obtain ⟨hcz9_0, hcz9_1, hcz9_2⟩ := zc3 BK331; obtain ⟨hfz9_0, hfz9_1, hfz9_2⟩ := zf3 BK331) | ((with_reducible refine gate_callee (f := 57) rfl ?_); refine goesL_ (some 15) rfl rfl Try.func57 (by kernel_rfl) rfl #[.agg #[.int .i64 a0_0, .int .i64 a0_1, .int .i64 a0_2], .int .i64 a1] rfl zM ?_; (with_reducible refine (impl_Boxes_with.calls k a0_0 a0_1 a0_2 a1 t333 _ A5.out).mono ?_); rintro e w10 ⟨v334, rfl, ho0, hb⟩; refine ⟨_, rfl, ?_⟩; refine zA3 (Kd.R_lower ho0 (below_size (zH1 HB.out GE331.out))) (blk_below (g := gb331) (o := .cells #[.int .i64 a0_0, .int .i64 a0_1, .int .i64 a0_2] 25 (0, 0)) (zB BK331.out) hb) (below_step (zH1 HB.out GE331.out) hb) ?_; clear BK331 HB; intro HO335 BK331 HB; (try clear hb); (try clear hb2); (try clear hk); (try clear hi); (try clear ho0)))
    go_ret2
    exact ⟨_, zE, by (with_reducible repeat (first | apply Kd.R_alloc | apply Kd.R_drewN | apply Kd.R_drew)); exact HO335.out, zH1 HB.out GE331.out⟩
  · rw [if_neg c4] at H
    have c4b0 := zq3 c4
    have c4b1 := zq4 c4
    simp only [Option.some.injEq, Prod.mk.injEq] at H
    obtain ⟨rfl, rfl⟩ := H
    go_enter Try.func33, Try.ntmps33
    go_wp2_with (first | ((with_reducible refine gate_dst (N := 2) rfl ?_); refine zX 2 #[.int .i64 a0_0, .int .i64 a0_1, .int .i64 a0_2] 25 ?_; intro gb331 hg w11 hbox hb; refine zA4 (below_step (zH HB.out) hb) (hbox) ((zS hg (below_size (zH HB.out)) : w.heap.size ≤ gb331)) ((zS hg (below_size (zH HB.out)) : w.heap.size ≤ gb331)) ?_; clear HB; intro HB BK331 GW331 GE331; clear hb hbox hg; obtain ⟨hcz12_0, hcz12_1, hcz12_2⟩ := zc3 BK331; obtain ⟨hfz12_0, hfz12_1, hfz12_2⟩ := zf3 BK331) | ((with_reducible refine gate_callee (f := 34) rfl ?_); refine goesL_ (some 9) rfl rfl Try.func34 (by kernel_rfl) rfl #[.agg #[.int .i64 a0_0, .int .i64 a0_1, .int .i64 a0_2], .int .i64 a1, .int .i64 5] rfl zM ?_; (with_reducible refine (impl_boxesCode.calls k a0_0 a0_1 a0_2 a1 5 t332 _ A3.out).mono ?_); rintro e w13 ⟨rfl, hb⟩; refine ⟨_, rfl, ?_⟩; refine zA2 (blk_below (g := gb331) (o := .cells #[.int .i64 a0_0, .int .i64 a0_1, .int .i64 a0_2] 25 (0, 0)) (zB BK331.out) hb) (below_step (zH1 HB.out GE331.out) hb) ?_; clear BK331 HB; intro BK331 HB; (try clear hb); (try clear hb2); (try clear hk); (try clear hi)))
    go_ret2
    exact ⟨_, zE, by first | exact Kd.R_nil _ _ _ _ _ | exact Kd.N_nil _ _ _ _ _ | exact Kd.V_nil _ _ _ _ _ | exact Kd.Q_nil _ _ _ _ _ | exact Kd.S_nil _ _ _ _ _, zH1 HB.out GE331.out⟩

/-! ### impl_TakenBoxes: function 14 -/
def impl_TakenBoxes.f (k : Nat) (a0_0 : Int) (a0_1 : Int) (a0_2 : Int) : Option (List Int × Int) := (impl_BoxesWith.f k a0_0 a0_1 a0_2 4).bind fun bt337 => (some (bt337.1, bt337.2))
theorem impl_TakenBoxes.mono : ∀ a0 a1 a2 k, LeO (impl_TakenBoxes.f k a0 a1 a2) (impl_TakenBoxes.f (k + 1) a0 a1 a2) := by
  intro a0 a1 a2 k
  unfold impl_TakenBoxes.f
  repeat' first
      | (with_reducible exact impl_BoxesWith.mono _ _ _ _ _)
      | (with_reducible exact LeO.refl _)
      | (with_reducible exact LeO.none _)
      | (with_reducible refine LeO.ite ?_ ?_)
      | (with_reducible refine LeO.bind ?_ (fun _ => ?_))
      | exact impl_BoxesWith.mono _ _ _ _ _
      | exact LeO.none _
      | refine LeO.ite ?_ ?_
      | refine LeO.bind ?_ (fun _ => ?_)
set_option maxHeartbeats 8000000 in
set_option maxRecDepth 100000 in
theorem impl_TakenBoxes.calls (k : Nat) (a0_0 : Int) (a0_1 : Int) (a0_2 : Int) (r1 : List Int) (r2 : Int) (w : World) (h : impl_TakenBoxes.f k a0_0 a0_1 a0_2 = some (r1, r2)) :
    Calls Try.prog 14 #[.agg #[.int .i64 a0_0, .int .i64 a0_1, .int .i64 a0_2]] w fun e w' => ∃ v0_ : Value, e = .returned (.tuple #[v0_, .int .i64 r2]) ∧ Kd.R (Kd.int .i64) 2 w' w.heap.size (fun _ => True) v0_ r1 ∧ Below w.heap.size w w' := by
  have hu25 := Try.underlying25
  have HB := Aside0.mk (Below.refl w.heap.size w)
  have H : ((impl_BoxesWith.f k a0_0 a0_1 a0_2 4).bind fun bt337 => (some (bt337.1, bt337.2))) = some (r1, r2) := h
  clear h
  obtain ⟨⟨t337, t340⟩, A2, H⟩ := zb H; (try dsimp only at H)
  simp only [Option.some.injEq, Prod.mk.injEq] at H
  obtain ⟨rfl, rfl⟩ := H
  go_enter Try.func14, Try.ntmps14
  go_wp2_with (first | ((with_reducible refine gate_dst (N := 1) rfl ?_); refine zX 1 #[.int .i64 a0_0, .int .i64 a0_1, .int .i64 a0_2] 25 ?_; intro gb336 hg w3 hbox hb; refine zA4 (below_step (zH HB.out) hb) (hbox) ((zS hg (below_size (zH HB.out)) : w.heap.size ≤ gb336)) ((zS hg (below_size (zH HB.out)) : w.heap.size ≤ gb336)) ?_; clear HB; intro HB BK336 GW336 GE336; clear hb hbox hg; obtain ⟨hcz4_0, hcz4_1, hcz4_2⟩ := zc3 BK336; obtain ⟨hfz4_0, hfz4_1, hfz4_2⟩ := zf3 BK336) | ((with_reducible refine gate_callee (f := 33) rfl ?_); refine goesL_ (some 5) rfl rfl Try.func33 (by kernel_rfl) rfl #[.agg #[.int .i64 a0_0, .int .i64 a0_1, .int .i64 a0_2], .int .i64 4] rfl zM ?_; (with_reducible refine (impl_BoxesWith.calls k a0_0 a0_1 a0_2 4 t337 t340 _ A2.out).mono ?_); rintro e w5 ⟨v338, rfl, ho0, hb⟩; refine ⟨_, rfl, ?_⟩; refine zA3 (Kd.R_lower ho0 (below_size (zH1 HB.out GE336.out))) (blk_below (g := gb336) (o := .cells #[.int .i64 a0_0, .int .i64 a0_1, .int .i64 a0_2] 25 (0, 0)) (zB BK336.out) hb) (below_step (zH1 HB.out GE336.out) hb) ?_; clear BK336 HB; intro HO339 BK336 HB; (try clear hb); (try clear hb2); (try clear hk); (try clear hi); (try clear ho0)))
  go_ret2
  exact ⟨_, zE, by (with_reducible repeat (first | apply Kd.R_alloc | apply Kd.R_drewN | apply Kd.R_drew)); exact HO339.out, zH1 HB.out GE336.out⟩

end Go.Proofs.Ytelfllbjcpndfaa.Q
