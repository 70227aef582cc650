-- Written by a program of this session (wip/tools/px.sh) over the seat's translation; Lean checks it.
import Derived.Test.YtlmohkbimnhecaaGreatDoorQ0
import Derived.Test.YtlmohkbimnhecaaGreatDoorSq
import Derived.Test.YtlmohkbimnhecaaGreatDoorQ1
import Derived.Test.YtlmohkbimnhecaaGreatDoorQ2
import Derived.Test.YtlmohkbimnhecaaGreatDoorQ3
import Derived.Test.YtlmohkbimnhecaaGreatDoorQ4
import Derived.Test.YtlmohkbimnhecaaGreatDoorQ5
namespace Go.Proofs.YtlmohkbimnhecaaGreatDoor.Q
open Go.RowKit Go.Proofs.YtlmohkbimnhecaaGreatDoorW.PrintWords Go.Proofs.YtlmohkbimnhecaaGreatDoorW.PrintLast Go.Proofs.YtlmohkbimnhecaaGreatDoorW.PrintMore
attribute [local go_sem] max2_int min2_int max_two min_two max_three min_three max_four min_four   -- for this text's walks alone
set_option linter.unusedVariables false
set_option linter.unusedSimpArgs false

/-! ### impl_ExchangeSides: function 22 -/
def impl_ExchangeSides.f (a0_0 : Int) (a0_1 : Int) (a0_2 : Int) (a0_3 : Int) : Option (Int × Int × Int × Int × Int) := (impl_IsField.f a0_0 a0_1 a0_2 a0_3).bind fun t500 => (if t500 = true then (some (a0_0, a0_1, a0_3, a0_2, 0)) else (some (0, 0, 0, 0, 1)))
set_option maxHeartbeats 8000000 in
set_option maxRecDepth 100000 in
theorem impl_ExchangeSides.calls (a0_0 : Int) (a0_1 : Int) (a0_2 : Int) (a0_3 : Int) (r1 : Int) (r2 : Int) (r3 : Int) (r4 : Int) (r5 : Int) (w : World) (h : impl_ExchangeSides.f a0_0 a0_1 a0_2 a0_3 = some (r1, r2, r3, r4, r5)) :
    Calls Tryz.prog 22 #[.agg #[.int .i64 a0_0, .int .i64 a0_1, .int .i64 a0_2, .int .i64 a0_3]] w fun e w' => e = .returned (.tuple #[.agg #[.int .i64 r1, .int .i64 r2, .int .i64 r3, .int .i64 r4], .int .i64 r5]) ∧ Below w.heap.size w w' := by
  have hu25 := Tryz.underlying25
  have HB := Aside0.mk (Below.refl w.heap.size w)
  have H : ((impl_IsField.f a0_0 a0_1 a0_2 a0_3).bind fun t500 => (if t500 = true then (some (a0_0, a0_1, a0_3, a0_2, 0)) else (some (0, 0, 0, 0, 1)))) = some (r1, r2, r3, r4, r5) := h
  clear h
  obtain ⟨t500, A2, H⟩ := zb H
  by_cases c3 : t500 = true
  · subst c3
    have H1 : (some (a0_0, a0_1, a0_3, a0_2, 0)) = some (r1, r2, r3, r4, r5) := by rw [if_pos rfl] at H; exact H
    clear H
    have H := H1
    clear H1
    simp only [Option.some.injEq, Prod.mk.injEq] at H
    obtain ⟨rfl, rfl, rfl, rfl, rfl⟩ := H
    go_enter Tryz.func22, Tryz.ntmps22
    go_wp2_with (first | ((with_reducible refine gate_dst (N := 1) rfl ?_); refine zX 1 #[.int .i64 a0_0, .int .i64 a0_1, .int .i64 a0_2, .int .i64 a0_3] 25 ?_; intro gb498 hg w4 hbox hb; refine zA4 (below_step (zH HB.out) hb) (hbox) ((zS hg (below_size (zH HB.out)) : w.heap.size ≤ gb498)) ((zS hg (below_size (zH HB.out)) : w.heap.size ≤ gb498)) ?_; clear HB; intro HB BK498 GW498 GE498; clear hb hbox hg) | ((with_reducible refine gate_dst (N := 2) rfl ?_); refine zX 2 #[.int .i64 0, .int .i64 0, .int .i64 0, .int .i64 0] 25 ?_; intro gb499 hg w5 hbox hb; refine zA7 (zY BK498.out hb) (below_step (zH1 HB.out GE498.out) hb) (hbox) ((zS hg (below_size (zH1 HB.out GE498.out)) : w.heap.size ≤ gb499)) ((zS hg (below_size (zH1 HB.out GE498.out)) : w.heap.size ≤ gb499)) ((zl hg (blk_lt (g := gb498) (o := .cells #[.int .i64 a0_0, .int .i64 a0_1, .int .i64 a0_2, .int .i64 a0_3] 25 (0, 0)) (zB BK498.out)) : gb498 ≠ gb499)) ((zg hg (blk_lt (g := gb498) (o := .cells #[.int .i64 a0_0, .int .i64 a0_1, .int .i64 a0_2, .int .i64 a0_3] 25 (0, 0)) (zB BK498.out)) : gb499 ≠ gb498)) ?_; clear BK498 HB; intro BK498 HB BK499 GW499 GE499 NB498_499 NB499_498; clear hb hbox hg; have hnb6 := NB498_499.out; have hnc6 := NB499_498.out; obtain ⟨hcz7_0, hcz7_1, hcz7_2, hcz7_3⟩ := zc4 BK498; obtain ⟨hfz7_0, hfz7_1, hfz7_2, hfz7_3⟩ := zf4 BK498) | ((with_reducible refine gate_callee (f := 11) rfl ?_); refine goesL_ (some 5) rfl rfl Tryz.func11 (by kernel_rfl) rfl #[.agg #[.int .i64 a0_0, .int .i64 a0_1, .int .i64 a0_2, .int .i64 a0_3]] rfl zM ?_; (with_reducible refine (impl_IsField.calls a0_0 a0_1 a0_2 a0_3 true _ A2.out).mono ?_); rintro e w8 ⟨rfl, hb⟩; refine ⟨_, rfl, ?_⟩; refine zA3 (zY BK498.out hb) (zY BK499.out hb) (below_step (zH2 HB.out GE498.out GE499.out) hb) ?_; clear BK498 BK499 HB; intro BK498 BK499 HB; (try clear hb); (try clear hb2); (try clear hk); (try clear hi); obtain ⟨hcz9_0, hcz9_1, hcz9_2, hcz9_3⟩ := zc4 BK498; obtain ⟨hfz9_0, hfz9_1, hfz9_2, hfz9_3⟩ := zf4 BK498; obtain ⟨hcz10_0, hcz10_1, hcz10_2, hcz10_3⟩ := zc4 BK499; obtain ⟨hfz10_0, hfz10_1, hfz10_2, hfz10_3⟩ := zf4 BK499))
    refine bodyPost_ret (results_ct rfl _ _ gb499 25 #[.int .i64 a0_0, .int .i64 a0_1, .int .i64 a0_3, .int .i64 a0_2] (0, 0) _ rfl (zQ BK499.out) Tryz.underlying25 rfl (by kernel_rfl)) rfl ?_
    exact ⟨zE, zH2 HB.out GE498.out GE499.out⟩
  · replace c3 := Bool.eq_false_iff.mpr c3
    subst c3
    have H1 : (some (0, 0, 0, 0, 1)) = some (r1, r2, r3, r4, r5) := by rw [if_neg (show ¬ (false = true) by decide)] at H; exact H
    clear H
    have H := H1
    clear H1
    simp only [Option.some.injEq, Prod.mk.injEq] at H
    obtain ⟨rfl, rfl, rfl, rfl, rfl⟩ := H
    go_enter Tryz.func22, Tryz.ntmps22
    go_wp2_with (first | ((with_reducible refine gate_dst (N := 1) rfl ?_); refine zX 1 #[.int .i64 a0_0, .int .i64 a0_1, .int .i64 a0_2, .int .i64 a0_3] 25 ?_; intro gb498 hg w11 hbox hb; refine zA4 (below_step (zH HB.out) hb) (hbox) ((zS hg (below_size (zH HB.out)) : w.heap.size ≤ gb498)) ((zS hg (below_size (zH HB.out)) : w.heap.size ≤ gb498)) ?_; clear HB; intro HB BK498 GW498 GE498; clear hb hbox hg) | ((with_reducible refine gate_dst (N := 2) rfl ?_); refine zX 2 #[.int .i64 0, .int .i64 0, .int .i64 0, .int .i64 0] 25 ?_; intro gb499 hg w12 hbox hb; refine zA7 (zY BK498.out hb) (below_step (zH1 HB.out GE498.out) hb) (hbox) ((zS hg (below_size (zH1 HB.out GE498.out)) : w.heap.size ≤ gb499)) ((zS hg (below_size (zH1 HB.out GE498.out)) : w.heap.size ≤ gb499)) ((zl hg (blk_lt (g := gb498) (o := .cells #[.int .i64 a0_0, .int .i64 a0_1, .int .i64 a0_2, .int .i64 a0_3] 25 (0, 0)) (zB BK498.out)) : gb498 ≠ gb499)) ((zg hg (blk_lt (g := gb498) (o := .cells #[.int .i64 a0_0, .int .i64 a0_1, .int .i64 a0_2, .int .i64 a0_3] 25 (0, 0)) (zB BK498.out)) : gb499 ≠ gb498)) ?_; clear BK498 HB; intro BK498 HB BK499 GW499 GE499 NB498_499 NB499_498; clear hb hbox hg; have hnb13 := NB498_499.out; have hnc13 := NB499_498.out; obtain ⟨hcz14_0, hcz14_1, hcz14_2, hcz14_3⟩ := zc4 BK498; obtain ⟨hfz14_0, hfz14_1, hfz14_2, hfz14_3⟩ := zf4 BK498) | ((with_reducible refine gate_callee (f := 11) rfl ?_); refine goesL_ (some 5) rfl rfl Tryz.func11 (by kernel_rfl) rfl #[.agg #[.int .i64 a0_0, .int .i64 a0_1, .int .i64 a0_2, .int .i64 a0_3]] rfl zM ?_; (with_reducible refine (impl_IsField.calls a0_0 a0_1 a0_2 a0_3 false _ A2.out).mono ?_); rintro e w15 ⟨rfl, hb⟩; refine ⟨_, rfl, ?_⟩; refine zA3 (zY BK498.out hb) (zY BK499.out hb) (below_step (zH2 HB.out GE498.out GE499.out) hb) ?_; clear BK498 BK499 HB; intro BK498 BK499 HB; (try clear hb); (try clear hb2); (try clear hk); (try clear hi); obtain ⟨hcz16_0, hcz16_1, hcz16_2, hcz16_3⟩ := zc4 BK499; obtain ⟨hfz16_0, hfz16_1, hfz16_2, hfz16_3⟩ := zf4 BK499))
    refine bodyPost_ret (results_ct rfl _ _ gb499 25 #[.int .i64 0, .int .i64 0, .int .i64 0, .int .i64 0] (0, 0) _ rfl (zQ BK499.out) Tryz.underlying25 rfl (by kernel_rfl)) rfl ?_
    exact ⟨zE, zH2 HB.out GE498.out GE499.out⟩

/-! ### spec_ExchangeSides: function 23 -/
def spec_ExchangeSides.f (a0_0 : Int) (a0_1 : Int) (a0_2 : Int) (a0_3 : Int) : Option (Int × Int × Int × Int × Int) := (spec_l05Is.f a0_0 a0_1 a0_2 a0_3).bind fun t503 => (if t503 = true then (some (a0_0, a0_1, a0_3, a0_2, 0)) else (some (0, 0, 0, 0, 1)))
set_option maxHeartbeats 8000000 in
set_option maxRecDepth 100000 in
theorem spec_ExchangeSides.calls (a0_0 : Int) (a0_1 : Int) (a0_2 : Int) (a0_3 : Int) (r1 : Int) (r2 : Int) (r3 : Int) (r4 : Int) (r5 : Int) (w : World) (h : spec_ExchangeSides.f a0_0 a0_1 a0_2 a0_3 = some (r1, r2, r3, r4, r5)) :
    Calls Tryz.prog 23 #[.agg #[.int .i64 a0_0, .int .i64 a0_1, .int .i64 a0_2, .int .i64 a0_3]] w fun e w' => e = .returned (.tuple #[.agg #[.int .i64 r1, .int .i64 r2, .int .i64 r3, .int .i64 r4], .int .i64 r5]) ∧ Below w.heap.size w w' := by
  have hu25 := Tryz.underlying25
  have HB := Aside0.mk (Below.refl w.heap.size w)
  have H : ((spec_l05Is.f a0_0 a0_1 a0_2 a0_3).bind fun t503 => (if t503 = true then (some (a0_0, a0_1, a0_3, a0_2, 0)) else (some (0, 0, 0, 0, 1)))) = some (r1, r2, r3, r4, r5) := h
  clear h
  obtain ⟨t503, A2, H⟩ := zb H
  by_cases c3 : t503 = true
  · subst c3
    have H1 : (some (a0_0, a0_1, a0_3, a0_2, 0)) = some (r1, r2, r3, r4, r5) := by rw [if_pos rfl] at H; exact H
    clear H
    have H := H1
    clear H1
    simp only [Option.some.injEq, Prod.mk.injEq] at H
    obtain ⟨rfl, rfl, rfl, rfl, rfl⟩ := H
    go_enter Tryz.func23, Tryz.ntmps23
    go_wp2_with (first | ((with_reducible refine gate_dst (N := 1) rfl ?_); refine zX 1 #[.int .i64 a0_0, .int .i64 a0_1, .int .i64 a0_2, .int .i64 a0_3] 25 ?_; intro gb501 hg w4 hbox hb; refine zA4 (below_step (zH HB.out) hb) (hbox) ((zS hg (below_size (zH HB.out)) : w.heap.size ≤ gb501)) ((zS hg (below_size (zH HB.out)) : w.heap.size ≤ gb501)) ?_; clear HB; intro HB BK501 GW501 GE501; clear hb hbox hg) | ((with_reducible refine gate_dst (N := 2) rfl ?_); refine zX 2 #[.int .i64 0, .int .i64 0, .int .i64 0, .int .i64 0] 25 ?_; intro gb502 hg w5 hbox hb; refine zA7 (zY BK501.out hb) (below_step (zH1 HB.out GE501.out) hb) (hbox) ((zS hg (below_size (zH1 HB.out GE501.out)) : w.heap.size ≤ gb502)) ((zS hg (below_size (zH1 HB.out GE501.out)) : w.heap.size ≤ gb502)) ((zl hg (blk_lt (g := gb501) (o := .cells #[.int .i64 a0_0, .int .i64 a0_1, .int .i64 a0_2, .int .i64 a0_3] 25 (0, 0)) (zB BK501.out)) : gb501 ≠ gb502)) ((zg hg (blk_lt (g := gb501) (o := .cells #[.int .i64 a0_0, .int .i64 a0_1, .int .i64 a0_2, .int .i64 a0_3] 25 (0, 0)) (zB BK501.out)) : gb502 ≠ gb501)) ?_; clear BK501 HB; intro BK501 HB BK502 GW502 GE502 NB501_502 NB502_501; clear hb hbox hg; have hnb6 := NB501_502.out; have hnc6 := NB502_501.out; obtain ⟨hcz7_0, hcz7_1, hcz7_2, hcz7_3⟩ := zc4 BK501; obtain ⟨hfz7_0, hfz7_1, hfz7_2, hfz7_3⟩ := zf4 BK501) | ((with_reducible refine gate_callee (f := 47) rfl ?_); refine goesL_ (some 5) rfl rfl Tryz.func47 (by kernel_rfl) rfl #[.agg #[.int .i64 a0_0, .int .i64 a0_1, .int .i64 a0_2, .int .i64 a0_3]] rfl zM ?_; (with_reducible refine (spec_l05Is.calls a0_0 a0_1 a0_2 a0_3 true _ A2.out).mono ?_); rintro e w8 ⟨rfl, hb⟩; refine ⟨_, rfl, ?_⟩; refine zA3 (zY BK501.out hb) (zY BK502.out hb) (below_step (zH2 HB.out GE501.out GE502.out) hb) ?_; clear BK501 BK502 HB; intro BK501 BK502 HB; (try clear hb); (try clear hb2); (try clear hk); (try clear hi); obtain ⟨hcz9_0, hcz9_1, hcz9_2, hcz9_3⟩ := zc4 BK501; obtain ⟨hfz9_0, hfz9_1, hfz9_2, hfz9_3⟩ := zf4 BK501; obtain ⟨hcz10_0, hcz10_1, hcz10_2, hcz10_3⟩ := zc4 BK502; obtain ⟨hfz10_0, hfz10_1, hfz10_2, hfz10_3⟩ := zf4 BK502))
    refine bodyPost_ret (results_ct rfl _ _ gb502 25 #[.int .i64 a0_0, .int .i64 a0_1, .int .i64 a0_3, .int .i64 a0_2] (0, 0) _ rfl (zQ BK502.out) Tryz.underlying25 rfl (by kernel_rfl)) rfl ?_
    exact ⟨zE, zH2 HB.out GE501.out GE502.out⟩
  · replace c3 := Bool.eq_false_iff.mpr c3
    subst c3
    have H1 : (some (0, 0, 0, 0, 1)) = some (r1, r2, r3, r4, r5) := by rw [if_neg (show ¬ (false = true) by decide)] at H; exact H
    clear H
    have H := H1
    clear H1
    simp only [Option.some.injEq, Prod.mk.injEq] at H
    obtain ⟨rfl, rfl, rfl, rfl, rfl⟩ := H
    go_enter Tryz.func23, Tryz.ntmps23
    go_wp2_with (first | ((with_reducible refine gate_dst (N := 1) rfl ?_); refine zX 1 #[.int .i64 a0_0, .int .i64 a0_1, .int .i64 a0_2, .int .i64 a0_3] 25 ?_; intro gb501 hg w11 hbox hb; refine zA4 (below_step (zH HB.out) hb) (hbox) ((zS hg (below_size (zH HB.out)) : w.heap.size ≤ gb501)) ((zS hg (below_size (zH HB.out)) : w.heap.size ≤ gb501)) ?_; clear HB; intro HB BK501 GW501 GE501; clear hb hbox hg) | ((with_reducible refine gate_dst (N := 2) rfl ?_); refine zX 2 #[.int .i64 0, .int .i64 0, .int .i64 0, .int .i64 0] 25 ?_; intro gb502 hg w12 hbox hb; refine zA7 (zY BK501.out hb) (below_step (zH1 HB.out GE501.out) hb) (hbox) ((zS hg (below_size (zH1 HB.out GE501.out)) : w.heap.size ≤ gb502)) ((zS hg (below_size (zH1 HB.out GE501.out)) : w.heap.size ≤ gb502)) ((zl hg (blk_lt (g := gb501) (o := .cells #[.int .i64 a0_0, .int .i64 a0_1, .int .i64 a0_2, .int .i64 a0_3] 25 (0, 0)) (zB BK501.out)) : gb501 ≠ gb502)) ((zg hg (blk_lt (g := gb501) (o := .cells #[.int .i64 a0_0, .int .i64 a0_1, .int .i64 a0_2, .int .i64 a0_3] 25 (0, 0)) (zB BK501.out)) : gb502 ≠ gb501)) ?_; clear BK501 HB; intro BK501 HB BK502 GW502 GE502 NB501_502 NB502_501; clear hb hbox hg; have hnb13 := NB501_502.out; have hnc13 := NB502_501.out; obtain ⟨hcz14_0, hcz14_1, hcz14_2, hcz14_3⟩ := zc4 BK501; obtain ⟨hfz14_0, hfz14_1, hfz14_2, hfz14_3⟩ := zf4 BK501) | ((with_reducible refine gate_callee (f := 47) rfl ?_); refine goesL_ (some 5) rfl rfl Tryz.func47 (by kernel_rfl) rfl #[.agg #[.int .i64 a0_0, .int .i64 a0_1, .int .i64 a0_2, .int .i64 a0_3]] rfl zM ?_; (with_reducible refine (spec_l05Is.calls a0_0 a0_1 a0_2 a0_3 false _ A2.out).mono ?_); rintro e w15 ⟨rfl, hb⟩; refine ⟨_, rfl, ?_⟩; refine zA3 (zY BK501.out hb) (zY BK502.out hb) (below_step (zH2 HB.out GE501.out GE502.out) hb) ?_; clear BK501 BK502 HB; intro BK501 BK502 HB; (try clear hb); (try clear hb2); (try clear hk); (try clear hi); obtain ⟨hcz16_0, hcz16_1, hcz16_2, hcz16_3⟩ := zc4 BK502; obtain ⟨hfz16_0, hfz16_1, hfz16_2, hfz16_3⟩ := zf4 BK502))
    refine bodyPost_ret (results_ct rfl _ _ gb502 25 #[.int .i64 0, .int .i64 0, .int .i64 0, .int .i64 0] (0, 0) _ rfl (zQ BK502.out) Tryz.underlying25 rfl (by kernel_rfl)) rfl ?_
    exact ⟨zE, zH2 HB.out GE501.out GE502.out⟩

/-! ### spec_DrawIsFairField: function 24 -/
def spec_DrawIsFairField.f (k : Nat) (l0 : List Int) : Option (Int × Int × Int × Int × Int) := (spec_l05Given.f k l0).bind fun bt505 => (some (bt505.1, bt505.2.1, bt505.2.2.1, bt505.2.2.2.1, bt505.2.2.2.2.1))
set_option maxHeartbeats 8000000 in
set_option maxRecDepth 100000 in
theorem spec_DrawIsFairField.calls (k : Nat) (A0 : Option Addr) (c0 : Nat) (l0 : List Int) (r1 : Int) (r2 : Int) (r3 : Int) (r4 : Int) (r5 : Int) (w : World) (hr0 : Kd.C (Kd.int .u8) w A0 l0.length l0) (hc0 : l0.length ≤ c0) (h : spec_DrawIsFairField.f k l0 = some (r1, r2, r3, r4, r5)) :
    Calls Tryz.prog 24 #[.slice A0 l0.length c0] w fun e w' => e = .returned (.tuple #[.agg #[.int .i64 r1, .int .i64 r2, .int .i64 r3, .int .i64 r4], .int .i64 r5]) ∧ Below w.heap.size w w' := by
  have hu25 := Tryz.underlying25
  have HR0 := Aside0.mk hr0
  have HC0 := Aside0.mk hc0
  clear hr0 hc0
  have HB := Aside0.mk (Below.refl w.heap.size w)
  have H : ((spec_l05Given.f k l0).bind fun bt505 => (some (bt505.1, bt505.2.1, bt505.2.2.1, bt505.2.2.2.1, bt505.2.2.2.2.1))) = some (r1, r2, r3, r4, r5) := h
  clear h
  obtain ⟨⟨t505, t506, t507, t508, t509, t510⟩, A2, H⟩ := zb H; (try dsimp only at H)
  simp only [Option.some.injEq, Prod.mk.injEq] at H
  obtain ⟨rfl, rfl, rfl, rfl, rfl⟩ := H
  go_enter Tryz.func24, Tryz.ntmps24
  go_wp2_with (first | ((with_reducible refine gate_dst (N := 2) rfl ?_); refine zX 2 #[.int .i64 0, .int .i64 0, .int .i64 0, .int .i64 0] 25 ?_; intro gb504 hg w3 hbox hb; refine zA4 (below_step (zH HB.out) hb) (hbox) ((zS hg (below_size (zH HB.out)) : w.heap.size ≤ gb504)) ((zS hg (below_size (zH HB.out)) : w.heap.size ≤ gb504)) ?_; clear HB; intro HB BK504 GW504 GE504; clear hb hbox hg) | ((with_reducible refine gate_callee (f := 60) rfl ?_); refine goesL_ (some 9) rfl rfl Tryz.func60 (by kernel_rfl) rfl #[.slice A0 l0.length c0] rfl zM ?_; (with_reducible refine (spec_l05Given.calls k _ _ l0 t505 t506 t507 t508 t509 t510 _ ?side1 ?side2 A2.out).mono ?_); (case side1 => repeat (first | exact (Kd.C_below HR0.out HB.out) | (with_reducible refine Kd.C_alloc ?_ _) | (with_reducible refine Kd.C_drewN ?_ _) | (with_reducible refine Kd.C_drew ?_))); (case side2 => exact HC0.out); rintro e w4 ⟨rfl, hb⟩; refine ⟨_, rfl, ?_⟩; refine zA2 (zY BK504.out hb) (below_step (zH1 HB.out GE504.out) hb) ?_; clear BK504 HB; intro BK504 HB; (try clear hb); (try clear hb2); (try clear hk); (try clear hi)) | ((with_reducible refine gate_dst (N := 4) rfl ?_); refine zX 4 #[.int .i64 0, .int .i64 0, .int .i64 0, .int .i64 0] 25 ?_; intro gb511 hg w5 hbox hb; refine zA7 (zY BK504.out hb) (below_step (zH1 HB.out GE504.out) hb) (hbox) ((zS hg (below_size (zH1 HB.out GE504.out)) : w.heap.size ≤ gb511)) ((zS hg (below_size (zH1 HB.out GE504.out)) : w.heap.size ≤ gb511)) ((zl hg (blk_lt (g := gb504) (o := .cells #[.int .i64 0, .int .i64 0, .int .i64 0, .int .i64 0] 25 (0, 0)) (zB BK504.out)) : gb504 ≠ gb511)) ((zg hg (blk_lt (g := gb504) (o := .cells #[.int .i64 0, .int .i64 0, .int .i64 0, .int .i64 0] 25 (0, 0)) (zB BK504.out)) : gb511 ≠ gb504)) ?_; clear BK504 HB; intro BK504 HB BK511 GW511 GE511 NB504_511 NB511_504; clear hb hbox hg; have hnb6 := NB511_504.out; have hnc6 := NB504_511.out; obtain ⟨hcz7_0, hcz7_1, hcz7_2, hcz7_3⟩ := zc4 BK511; obtain ⟨hfz7_0, hfz7_1, hfz7_2, hfz7_3⟩ := zf4 BK511; obtain ⟨hcz8_0, hcz8_1, hcz8_2, hcz8_3⟩ := zc4 BK504; obtain ⟨hfz8_0, hfz8_1, hfz8_2, hfz8_3⟩ := zf4 BK504))
  refine bodyPost_ret (results_ct rfl _ _ gb504 25 #[.int .i64 t505, .int .i64 t506, .int .i64 t507, .int .i64 t508] (0, 0) _ rfl (zQ1 BK504.out NB504_511.out) Tryz.underlying25 rfl (by kernel_rfl)) rfl ?_
  exact ⟨zE, zH2 HB.out GE504.out GE511.out⟩

/-! ### spec_IsFairField: function 25 -/
def spec_IsFairField.f (k : Nat) (a0_0 : Int) (a0_1 : Int) (a0_2 : Int) (a0_3 : Int) (a1 : Int) : Option (Bool × Int) := (spec_l05Code.f k a0_0 a0_1 a0_2 a0_3 a1).bind fun t513 => (if t513 = 5 then (some (false, 0)) else (some ((t513 == 0), t513)))
set_option maxHeartbeats 8000000 in
set_option maxRecDepth 100000 in
theorem spec_IsFairField.calls (k : Nat) (a0_0 : Int) (a0_1 : Int) (a0_2 : Int) (a0_3 : Int) (a1 : Int) (r1 : Bool) (r2 : Int) (w : World) (h : spec_IsFairField.f k a0_0 a0_1 a0_2 a0_3 a1 = some (r1, r2)) :
    Calls Tryz.prog 25 #[.agg #[.int .i64 a0_0, .int .i64 a0_1, .int .i64 a0_2, .int .i64 a0_3], .int .i64 a1] w fun e w' => e = .returned (.tuple #[.bool r1, .int .i64 r2]) ∧ Below w.heap.size w w' := by
  have hu25 := Tryz.underlying25
  have HB := Aside0.mk (Below.refl w.heap.size w)
  have H : ((spec_l05Code.f k a0_0 a0_1 a0_2 a0_3 a1).bind fun t513 => (if t513 = 5 then (some (false, 0)) else (some ((t513 == 0), t513)))) = some (r1, r2) := h
  clear h
  obtain ⟨t513, A3, H⟩ := zb H
  by_cases c4 : t513 = 5
  · rw [if_pos c4] at H
    have c4b0 := zq1 c4
    have c4b1 := zq2 c4
    clear c4
    simp only [Option.some.injEq, Prod.mk.injEq] at H
    obtain ⟨rfl, rfl⟩ := H
    go_enter Tryz.func25, Tryz.ntmps25
    go_wp2_with (first | ((with_reducible refine gate_dst (N := 2) rfl ?_); refine zX 2 #[.int .i64 a0_0, .int .i64 a0_1, .int .i64 a0_2, .int .i64 a0_3] 25 ?_; intro gb512 hg w5 hbox hb; refine zA4 (below_step (zH HB.out) hb) (hbox) ((zS hg (below_size (zH HB.out)) : w.heap.size ≤ gb512)) ((zS hg (below_size (zH HB.out)) : w.heap.size ≤ gb512)) ?_; clear HB; intro HB BK512 GW512 GE512; clear hb hbox hg; obtain ⟨hcz6_0, hcz6_1, hcz6_2, hcz6_3⟩ := zc4 BK512; obtain ⟨hfz6_0, hfz6_1, hfz6_2, hfz6_3⟩ := zf4 BK512) | ((with_reducible refine gate_callee (f := 61) rfl ?_); refine goesL_ (some 9) rfl rfl Tryz.func61 (by kernel_rfl) rfl #[.agg #[.int .i64 a0_0, .int .i64 a0_1, .int .i64 a0_2, .int .i64 a0_3], .int .i64 a1] rfl zM ?_; (with_reducible refine (spec_l05Code.calls k a0_0 a0_1 a0_2 a0_3 a1 t513 _ A3.out).mono ?_); rintro e w7 ⟨rfl, hb⟩; refine ⟨_, rfl, ?_⟩; refine zA2 (zY BK512.out hb) (below_step (zH1 HB.out GE512.out) hb) ?_; clear BK512 HB; intro BK512 HB; (try clear hb); (try clear hb2); (try clear hk); (try clear hi)))
    go_ret2
    exact ⟨zE, zH1 HB.out GE512.out⟩
  · rw [if_neg c4] at H
    have c4b0 := zq3 c4
    have c4b1 := zq4 c4
    simp only [Option.some.injEq, Prod.mk.injEq] at H
    obtain ⟨rfl, rfl⟩ := H
    go_enter Tryz.func25, Tryz.ntmps25
    go_wp2_with (first | ((with_reducible refine gate_dst (N := 2) rfl ?_); refine zX 2 #[.int .i64 a0_0, .int .i64 a0_1, .int .i64 a0_2, .int .i64 a0_3] 25 ?_; intro gb512 hg w8 hbox hb; refine zA4 (below_step (zH HB.out) hb) (hbox) ((zS hg (below_size (zH HB.out)) : w.heap.size ≤ gb512)) ((zS hg (below_size (zH HB.out)) : w.heap.size ≤ gb512)) ?_; clear HB; intro HB BK512 GW512 GE512; clear hb hbox hg; obtain ⟨hcz9_0, hcz9_1, hcz9_2, hcz9_3⟩ := zc4 BK512; obtain ⟨hfz9_0, hfz9_1, hfz9_2, hfz9_3⟩ := zf4 BK512) | ((with_reducible refine gate_callee (f := 61) rfl ?_); refine goesL_ (some 9) rfl rfl Tryz.func61 (by kernel_rfl) rfl #[.agg #[.int .i64 a0_0, .int .i64 a0_1, .int .i64 a0_2, .int .i64 a0_3], .int .i64 a1] rfl zM ?_; (with_reducible refine (spec_l05Code.calls k a0_0 a0_1 a0_2 a0_3 a1 t513 _ A3.out).mono ?_); rintro e w10 ⟨rfl, hb⟩; refine ⟨_, rfl, ?_⟩; refine zA2 (zY BK512.out hb) (below_step (zH1 HB.out GE512.out) hb) ?_; clear BK512 HB; intro BK512 HB; (try clear hb); (try clear hb2); (try clear hk); (try clear hi)))
    go_ret2
    exact ⟨zE, zH1 HB.out GE512.out⟩

/-! ### spec_DrawAreJoined: function 26 -/
def spec_DrawAreJoined.f (k : Nat) (l0 : List Int) : Option (Int × Int × Int × Int × Int × Int) := (spec_l01From.f k l0).bind fun bt515 => ((spec_l05With.f k bt515.1 bt515.2.1 bt515.2.2).bind fun bt519 => ((spec_l01Near.f bt515.1 bt519.2.2.2.2.2.2.1 bt519.2.2.2.2.2.2.2 (wrap64 (bt519.1 - 1))).bind fun bt528 => ((spec_l01Near.f bt515.1 bt528.2.1 bt528.2.2 (wrap64 (bt519.1 - 1))).bind fun bt531 => ((spec_l05Bad.f bt515.1 bt531.2.1 bt531.2.2 bt519.1 bt519.2.1 bt519.2.2.1 bt519.2.2.2.1).bind fun bt534 => (some (bt534.1, bt534.2.1, bt534.2.2.1, bt534.2.2.2.1, bt528.1, bt531.1))))))
def spec_DrawAreJoined.T3 : Bool × List (List Nat × List Nat) := (true, [([], []), ([], []), ([1], [1]), ([2], [2]), ([0, 3], [0, 3]), ([], []), ([], []), ([6], [6]), ([7], [7]), ([5, 8, 4], [5, 8]), ([4, 9, 0, 1, 2, 3, 4], [4]), ([9, 10, 0, 1, 2, 3, 4, 5, 6, 7, 8, 9, 10], [9])])
def spec_DrawAreJoined.B3 : List Nat := [0, 0, 2, 6, 15, 0, 0, 64, 192, 511, 1023, 2047]
theorem spec_DrawAreJoined.tab3 : rtab .any (opsOf Tryz.f26 3) = spec_DrawAreJoined.T3 := by kernel_rfl
theorem spec_DrawAreJoined.bits3 : waitsOk spec_DrawAreJoined.T3.2 spec_DrawAreJoined.B3 = true := by kernel_rfl
set_option maxHeartbeats 8000000 in
set_option maxRecDepth 100000 in
theorem spec_DrawAreJoined.calls (k : Nat) (A0 : Option Addr) (c0 : Nat) (l0 : List Int) (r1 : Int) (r2 : Int) (r3 : Int) (r4 : Int) (r5 : Int) (r6 : Int) (w : World) (hr0 : Kd.C (Kd.int .u8) w A0 l0.length l0) (hc0 : l0.length ≤ c0) (h : spec_DrawAreJoined.f k l0 = some (r1, r2, r3, r4, r5, r6)) :
    Calls Tryz.prog 26 #[.slice A0 l0.length c0] w fun e w' => e = .returned (.tuple #[.agg #[.int .i64 r1, .int .i64 r2, .int .i64 r3, .int .i64 r4], .int .i64 r5, .int .i64 r6]) ∧ Below w.heap.size w w' := by
  have hu25 := Tryz.underlying25
  have HR0 := Aside0.mk hr0
  have HC0 := Aside0.mk hc0
  clear hr0 hc0
  have HB := Aside0.mk (Below.refl w.heap.size w)
  have H : ((spec_l01From.f k l0).bind fun bt515 => ((spec_l05With.f k bt515.1 bt515.2.1 bt515.2.2).bind fun bt519 => ((spec_l01Near.f bt515.1 bt519.2.2.2.2.2.2.1 bt519.2.2.2.2.2.2.2 (wrap64 (bt519.1 - 1))).bind fun bt528 => ((spec_l01Near.f bt515.1 bt528.2.1 bt528.2.2 (wrap64 (bt519.1 - 1))).bind fun bt531 => ((spec_l05Bad.f bt515.1 bt531.2.1 bt531.2.2 bt519.1 bt519.2.1 bt519.2.2.1 bt519.2.2.2.1).bind fun bt534 => (some (bt534.1, bt534.2.1, bt534.2.2.1, bt534.2.2.2.1, bt528.1, bt531.1))))))) = some (r1, r2, r3, r4, r5, r6) := h
  clear h
  obtain ⟨⟨t515, t516, t517⟩, A2, H⟩ := zb H; (try dsimp only at H)
  obtain ⟨⟨t519, t520, t521, t522, t523, t524, t525, t526⟩, A3, H⟩ := zb H; (try dsimp only at H)
  obtain ⟨⟨t528, t529, t530⟩, A4, H⟩ := zb H; (try dsimp only at H)
  obtain ⟨⟨t531, t532, t533⟩, A5, H⟩ := zb H; (try dsimp only at H)
  obtain ⟨⟨t534, t535, t536, t537, t538, t539⟩, A6, H⟩ := zb H; (try dsimp only at H)
  simp only [Option.some.injEq, Prod.mk.injEq] at H
  obtain ⟨rfl, rfl, rfl, rfl, rfl, rfl⟩ := H
  go_enter Tryz.func26, Tryz.ntmps26
  try go_wp2_with (first | ((with_reducible refine gate_dst (N := 2) rfl ?_); refine zX 2 #[.int .i64 0, .int .i64 0, .int .i64 0, .int .i64 0] 25 ?_; intro gb514 hg w7 hbox hb; refine zA4 (below_step (zH HB.out) hb) (hbox) ((zS hg (below_size (zH HB.out)) : w.heap.size ≤ gb514)) ((zS hg (below_size (zH HB.out)) : w.heap.size ≤ gb514)) ?_; clear HB; intro HB BK514 GW514 GE514; clear hb hbox hg) | ((with_reducible refine gate_callee (f := 31) rfl ?_); refine goesL_ (some 12) rfl rfl Tryz.func31 (by kernel_rfl) rfl #[.slice A0 l0.length c0] rfl zM ?_; (with_reducible refine (spec_l01From.calls k _ _ l0 t515 t516 t517 w _ ?side1 ?side2 ?side3 A2.out).mono ?_); (case side1 => exact zH1 HB.out GE514.out); (case side2 => exact HR0.out); (case side3 => exact HC0.out); rintro e w8 ⟨g518, rfl, hi, hb, hb2⟩; refine ⟨_, rfl, ?_⟩; refine zA5 (zY BK514.out hb2) (hb) (hi) (IsS85.ne_blk hi (zY BK514.out hb2) (by decide)) (Ne.symm (IsS85.ne_blk hi (zY BK514.out hb2) (by decide))) ?_; clear BK514 HB; intro BK514 HB HI518 NB518_514 NB514_518; (try clear hb); (try clear hb2); (try clear hk); (try clear hi)) | ((with_reducible refine gate_callee (f := 32) rfl ?_); refine goesL_ (some 15) rfl rfl Tryz.func32 (by kernel_rfl) rfl #[.pointer (some ⟨g518, 0, none⟩)] rfl zM ?_; (with_reducible refine (spec_l05With.calls k g518 t515 t516 t517 t519 t520 t521 t522 t523 t524 t525 t526 w _ ?side1 ?side2 A3.out).mono ?_); (case side1 => exact zI1 HI518.out NB518_514.out); (case side2 => exact zH2 HB.out (IsS85.ge HI518.out) GE514.out); rintro e w9 ⟨rfl, hi, hb, hk⟩; refine ⟨_, rfl, ?_⟩; refine zA3 (zYk hk BK514.out NB514_518.out) (hb) (hi) ?_; clear BK514 HB HI518; intro BK514 HB HI518; (try clear hb); (try clear hb2); (try clear hk); (try clear hi)) | ((with_reducible refine gate_dst (N := 6) rfl ?_); refine zX 6 #[.int .i64 0, .int .i64 0, .int .i64 0, .int .i64 0] 25 ?_; intro gb527 hg w10 hbox hb; refine zA10 (zY BK514.out hb) (IsS85.below (zI1 HI518.out NB518_514.out) hb) (below_step (zH2 HB.out (IsS85.ge HI518.out) GE514.out) hb) (hbox) ((by rw [hg]; exact (below_size (zH2 HB.out (IsS85.ge HI518.out) GE514.out)) : w.heap.size ≤ gb527)) ((by rw [hg]; exact (below_size (zH2 HB.out (IsS85.ge HI518.out) GE514.out)) : w.heap.size ≤ gb527)) ((zl hg (blk_lt (g := gb514) (o := .cells #[.int .i64 0, .int .i64 0, .int .i64 0, .int .i64 0] 25 (0, 0)) (zB BK514.out)) : gb514 ≠ gb527)) ((zg hg (blk_lt (g := gb514) (o := .cells #[.int .i64 0, .int .i64 0, .int .i64 0, .int .i64 0] 25 (0, 0)) (zB BK514.out)) : gb527 ≠ gb514)) ((zl hg (IsS85.lt (show IsS85 w _ g518 t515 t525 t526 from zI1 HI518.out NB518_514.out)) : g518 ≠ gb527)) ((zg hg (IsS85.lt (show IsS85 w _ g518 t515 t525 t526 from zI1 HI518.out NB518_514.out)) : gb527 ≠ g518)) ?_; clear BK514 HI518 HB; intro BK514 HI518 HB BK527 GW527 GE527 NB514_527 NB527_514 NB518_527 NB527_518; clear hb hbox hg; have hnb11 := NB527_514.out; have hnc11 := NB514_527.out; have hnb12 := NB527_518.out; have hnc12 := NB518_527.out; obtain ⟨hcz13_0, hcz13_1, hcz13_2, hcz13_3⟩ := zc4 BK527; obtain ⟨hfz13_0, hfz13_1, hfz13_2, hfz13_3⟩ := zf4 BK527))
  have n0_ : Aside0 (((((w10.setCell ⟨gb527, 0, none⟩ (.int .i64 t519)).setCell ⟨gb527, 1, none⟩ (.int .i64 t520)).setCell ⟨gb527, 2, none⟩ (.int .i64 t521)).setCell ⟨gb527, 3, none⟩ (.int .i64 t522)).heap[gb514]? = some (.cells #[.int .i64 0, .int .i64 0, .int .i64 0, .int .i64 0] 25 (0, 0))) := ⟨zQ1 BK514.out NB514_527.out⟩
  have n1_ : Aside0 (((((w10.setCell ⟨gb527, 0, none⟩ (.int .i64 t519)).setCell ⟨gb527, 1, none⟩ (.int .i64 t520)).setCell ⟨gb527, 2, none⟩ (.int .i64 t521)).setCell ⟨gb527, 3, none⟩ (.int .i64 t522)).heap[gb527]? = some (.cells #[.int .i64 t519, .int .i64 t520, .int .i64 t521, .int .i64 t522] 25 (0, 0))) := ⟨zQ BK527.out⟩
  have n2_ : Aside0 (IsS85 w ((((w10.setCell ⟨gb527, 0, none⟩ (.int .i64 t519)).setCell ⟨gb527, 1, none⟩ (.int .i64 t520)).setCell ⟨gb527, 2, none⟩ (.int .i64 t521)).setCell ⟨gb527, 3, none⟩ (.int .i64 t522)) g518 t515 t525 t526) := ⟨zI2 HI518.out NB518_514.out NB518_527.out⟩
  have n3_ : Aside0 (Below w.heap.size w ((((w10.setCell ⟨gb527, 0, none⟩ (.int .i64 t519)).setCell ⟨gb527, 1, none⟩ (.int .i64 t520)).setCell ⟨gb527, 2, none⟩ (.int .i64 t521)).setCell ⟨gb527, 3, none⟩ (.int .i64 t522))) := ⟨zH3 HB.out (IsS85.ge HI518.out) GE514.out GE527.out⟩
  (try clear BK514)
  (try clear BK527)
  (try clear HI518)
  (try clear HB)
  generalize ((((w10.setCell ⟨gb527, 0, none⟩ (.int .i64 t519)).setCell ⟨gb527, 1, none⟩ (.int .i64 t520)).setCell ⟨gb527, 2, none⟩ (.int .i64 t521)).setCell ⟨gb527, 3, none⟩ (.int .i64 t522)) = w14 at n0_ n1_ n2_ n3_ ⊢
  have BK514 := n0_
  have BK527 := n1_
  have HI518 := n2_
  have HB := n3_
  clear n0_ n1_ n2_ n3_
  refine zA4 (blk_drew BK514.out) (blk_drew BK527.out) (IsS85.drew HI518.out) (below_drew1 HB.out) ?_
  clear BK514 BK527 HI518 HB
  intro BK514 BK527 HI518 HB
  refine start_ (n := 12) (S := fun w' => w'.cell? ⟨gb527, 0, none⟩ = some (.int .i64 t519) ∧ w'.cell? ⟨gb527, 1, none⟩ = some (.int .i64 t520) ∧ w'.cell? ⟨gb527, 2, none⟩ = some (.int .i64 t521) ∧ w'.cell? ⟨gb527, 3, none⟩ = some (.int .i64 t522)) (ds := []) #[false, false, false, false, false, false, false, false, false, false, false, false] (by kernel_rfl) rfl rfl ⟨(blk_cell BK527.out 0).trans rfl, (blk_cell BK527.out 1).trans rfl, (blk_cell BK527.out 2).trans rfl, (blk_cell BK527.out 3).trans rfl⟩ (fun hHeld => ?_); refine with_tabW spec_DrawAreJoined.tab3 spec_DrawAreJoined.bits3 (fun HT_ HW_ => ?_)
  generalize w14.drew = w15 at BK514 BK527 HI518 HB hHeld ⊢
  refine zP HT_ 0 (some 19) rfl rfl ?_
  refine zP HT_ 1 (some 20) rfl rfl ?_
  refine zP HT_ 5 (some 24) rfl rfl ?_
  refine zP HT_ 6 (some 25) rfl rfl ?_
  refine zT HT_ HW_ hHeld 2 (some 21) rfl rfl ?_
  refine zP HT_ 3 (some 22) rfl rfl ?_
  refine zT HT_ HW_ hHeld 7 (some 26) rfl rfl ?_
  refine zP HT_ 8 (some 27) rfl rfl ?_
  refine one_ (i := 4) (N := some 23) #[true, true, true, true, true, true, true, true, true, false, false, false] rfl rfl (one_of HT_.out (by kernel_rfl)) (by decide) (fun K hK => ?_)
  refine goes_ Tryz.func33 (by kernel_rfl) rfl #[.pointer (some ⟨g518, 0, none⟩), .int .i64 (wrap64 (t519 - 1))] (by rfl) rfl rfl zM ?_
  with_reducible refine (spec_l01Near.calls g518 t515 t525 t526 (wrap64 (t519 - 1)) t528 t529 t530 w _ ?side1 ?side2 A4.out).mono ?_
  (case side1 => exact zI2 HI518.out NB518_514.out NB518_527.out)
  (case side2 => exact zH3 HB.out (IsS85.ge HI518.out) GE514.out GE527.out)
  rintro e w16 ⟨rfl, hi, hb, hk⟩
  refine ⟨_, rfl, ?_⟩
  refine zA4 (zYk hk BK514.out NB514_518.out) (zYk hk BK527.out NB527_518.out) (hb) (hi) ?_
  clear BK514 BK527 HB HI518
  intro BK514 BK527 HB HI518
  (try clear hb)
  (try clear hb2)
  (try clear hk)
  (try clear hi)
  refine hK.out _ _ ⟨(blk_cell BK527.out 0).trans rfl, (blk_cell BK527.out 1).trans rfl, (blk_cell BK527.out 2).trans rfl, (blk_cell BK527.out 3).trans rfl⟩ (fun hHeld => ?_)
  clear hK K
  refine zW (some 23) ?_
  refine one_ (i := 9) (N := some 28) #[true, true, true, true, true, true, true, true, true, true, false, false] rfl rfl (one_of HT_.out (by kernel_rfl)) (by decide) (fun K hK => ?_)
  refine goes_ Tryz.func33 (by kernel_rfl) rfl #[.pointer (some ⟨g518, 0, none⟩), .int .i64 (wrap64 (t519 - 1))] (by rfl) rfl rfl zM ?_
  with_reducible refine (spec_l01Near.calls g518 t515 t529 t530 (wrap64 (t519 - 1)) t531 t532 t533 w _ ?side1 ?side2 A5.out).mono ?_
  (case side1 => exact zI2 HI518.out NB518_514.out NB518_527.out)
  (case side2 => exact zH3 HB.out (IsS85.ge HI518.out) GE514.out GE527.out)
  rintro e w17 ⟨rfl, hi, hb, hk⟩
  refine ⟨_, rfl, ?_⟩
  refine zA4 (zYk hk BK514.out NB514_518.out) (zYk hk BK527.out NB527_518.out) (hb) (hi) ?_
  clear BK514 BK527 HB HI518
  intro BK514 BK527 HB HI518
  (try clear hb)
  (try clear hb2)
  (try clear hk)
  (try clear hi)
  refine hK.out _ _ ⟨(blk_cell BK527.out 0).trans rfl, (blk_cell BK527.out 1).trans rfl, (blk_cell BK527.out 2).trans rfl, (blk_cell BK527.out 3).trans rfl⟩ (fun hHeld => ?_)
  clear hK K
  refine zW (some 28) ?_
  refine zP HT_ 10 (some 9) rfl rfl ?_
  refine zP HT_ 11 (some 10) rfl rfl ?_
  refine done_ (done_of HT_.out (by kernel_rfl)) ?_
  obtain ⟨hcz18_0, hcz18_1, hcz18_2, hcz18_3⟩ := zc4 BK527
  obtain ⟨hfz18_0, hfz18_1, hfz18_2, hfz18_3⟩ := zf4 BK527
  try go_wp2_with (first | ((with_reducible refine gate_callee (f := 34) rfl ?_); refine goesL_ (some 31) rfl rfl Tryz.func34 (by kernel_rfl) rfl #[.pointer (some ⟨g518, 0, none⟩), .agg #[.int .i64 t519, .int .i64 t520, .int .i64 t521, .int .i64 t522]] rfl zM ?_; (with_reducible refine (spec_l05Bad.calls g518 t515 t532 t533 t519 t520 t521 t522 t534 t535 t536 t537 t538 t539 w _ ?side1 ?side2 A6.out).mono ?_); (case side1 => exact zI2 HI518.out NB518_514.out NB518_527.out); (case side2 => exact zH3 HB.out (IsS85.ge HI518.out) GE514.out GE527.out); rintro e w19 ⟨rfl, hi, hb, hk⟩; refine ⟨_, rfl, ?_⟩; refine zA4 (zYk hk BK514.out NB514_518.out) (zYk hk BK527.out NB527_518.out) (hb) (hi) ?_; clear BK514 BK527 HB HI518; intro BK514 BK527 HB HI518; (try clear hb); (try clear hb2); (try clear hk); (try clear hi); have hnb20 := NB514_518.out; have hnc20 := NB518_514.out; obtain ⟨hcz21_0, hcz21_1, hcz21_2, hcz21_3⟩ := zc4 BK514; obtain ⟨hfz21_0, hfz21_1, hfz21_2, hfz21_3⟩ := zf4 BK514))
  refine bodyPost_ret (results_ctt rfl _ _ gb514 25 #[.int .i64 t534, .int .i64 t535, .int .i64 t536, .int .i64 t537] (0, 0) _ rfl (zQ BK514.out) Tryz.underlying25 rfl (by kernel_rfl)) rfl ?_
  exact ⟨zE, zH3 HB.out (IsS85.ge HI518.out) GE514.out GE527.out⟩

/-! ### spec_AreJoined: function 27 -/
def spec_AreJoined.f (a0_0 : Int) (a0_1 : Int) (a0_2 : Int) (a0_3 : Int) (a1 : Int) (a2 : Int) : Option (Bool × Int) := (spec_l05Is.f a0_0 a0_1 a0_2 a0_3).bind fun t541 => (if t541 = true then ((spec_l01In.f a1 0 (wrap64 (a0_0 - 1))).bind fun t542 => (if t542 = true then ((spec_l01In.f a2 0 (wrap64 (a0_0 - 1))).bind fun t543 => (if t543 = true then (if a1 = a2 then (some (false, 2)) else ((spec_l05Joined.f a0_0 a0_1 a0_2 a0_3 a1 a2).bind fun t544 => (some (t544, 0)))) else (some (false, 2)))) else (some (false, 2)))) else (some (false, 1)))
set_option maxHeartbeats 8000000 in
set_option maxRecDepth 100000 in
theorem spec_AreJoined.calls (a0_0 : Int) (a0_1 : Int) (a0_2 : Int) (a0_3 : Int) (a1 : Int) (a2 : Int) (r1 : Bool) (r2 : Int) (w : World) (h : spec_AreJoined.f a0_0 a0_1 a0_2 a0_3 a1 a2 = some (r1, r2)) :
    Calls Tryz.prog 27 #[.agg #[.int .i64 a0_0, .int .i64 a0_1, .int .i64 a0_2, .int .i64 a0_3], .int .i64 a1, .int .i64 a2] w fun e w' => e = .returned (.tuple #[.bool r1, .int .i64 r2]) ∧ Below w.heap.size w w' := by
  have hu25 := Tryz.underlying25
  have HB := Aside0.mk (Below.refl w.heap.size w)
  have H : ((spec_l05Is.f a0_0 a0_1 a0_2 a0_3).bind fun t541 => (if t541 = true then ((spec_l01In.f a1 0 (wrap64 (a0_0 - 1))).bind fun t542 => (if t542 = true then ((spec_l01In.f a2 0 (wrap64 (a0_0 - 1))).bind fun t543 => (if t543 = true then (if a1 = a2 then (some (false, 2)) else ((spec_l05Joined.f a0_0 a0_1 a0_2 a0_3 a1 a2).bind fun t544 => (some (t544, 0)))) else (some (false, 2)))) else (some (false, 2)))) else (some (false, 1)))) = some (r1, r2) := h
  clear h
  obtain ⟨t541, A4, H⟩ := zb H
  by_cases c5 : t541 = true
  · subst c5
    have H1 : ((spec_l01In.f a1 0 (wrap64 (a0_0 - 1))).bind fun t542 => (if t542 = true then ((spec_l01In.f a2 0 (wrap64 (a0_0 - 1))).bind fun t543 => (if t543 = true then (if a1 = a2 then (some (false, 2)) else ((spec_l05Joined.f a0_0 a0_1 a0_2 a0_3 a1 a2).bind fun t544 => (some (t544, 0)))) else (some (false, 2)))) else (some (false, 2)))) = some (r1, r2) := by rw [if_pos rfl] at H; exact H
    clear H
    have H := H1
    clear H1
    obtain ⟨t542, A6, H⟩ := zb H
    by_cases c7 : t542 = true
    · subst c7
      have H1 : ((spec_l01In.f a2 0 (wrap64 (a0_0 - 1))).bind fun t543 => (if t543 = true then (if a1 = a2 then (some (false, 2)) else ((spec_l05Joined.f a0_0 a0_1 a0_2 a0_3 a1 a2).bind fun t544 => (some (t544, 0)))) else (some (false, 2)))) = some (r1, r2) := by rw [if_pos rfl] at H; exact H
      clear H
      have H := H1
      clear H1
      obtain ⟨t543, A8, H⟩ := zb H
      by_cases c9 : t543 = true
      · subst c9
        have H1 : (if a1 = a2 then (some (false, 2)) else ((spec_l05Joined.f a0_0 a0_1 a0_2 a0_3 a1 a2).bind fun t544 => (some (t544, 0)))) = some (r1, r2) := by rw [if_pos rfl] at H; exact H
        clear H
        have H := H1
        clear H1
        by_cases c10 : a1 = a2
        · rw [if_pos c10] at H
          have c10b0 := zq1 c10
          have c10b1 := zq2 c10
          clear c10
          simp only [Option.some.injEq, Prod.mk.injEq] at H
          obtain ⟨rfl, rfl⟩ := H
          go_enter Tryz.func27, Tryz.ntmps27
          go_wp2_with (first | ((with_reducible refine gate_dst (N := 3) rfl ?_); refine zX 3 #[.int .i64 a0_0, .int .i64 a0_1, .int .i64 a0_2, .int .i64 a0_3] 25 ?_; intro gb540 hg w11 hbox hb; refine zA4 (below_step (zH HB.out) hb) (hbox) ((zS hg (below_size (zH HB.out)) : w.heap.size ≤ gb540)) ((zS hg (below_size (zH HB.out)) : w.heap.size ≤ gb540)) ?_; clear HB; intro HB BK540 GW540 GE540; clear hb hbox hg; obtain ⟨hcz12_0, hcz12_1, hcz12_2, hcz12_3⟩ := zc4 BK540; obtain ⟨hfz12_0, hfz12_1, hfz12_2, hfz12_3⟩ := zf4 BK540) | ((with_reducible refine gate_callee (f := 47) rfl ?_); refine goesL_ (some 10) rfl rfl Tryz.func47 (by kernel_rfl) rfl #[.agg #[.int .i64 a0_0, .int .i64 a0_1, .int .i64 a0_2, .int .i64 a0_3]] rfl zM ?_; (with_reducible refine (spec_l05Is.calls a0_0 a0_1 a0_2 a0_3 true _ A4.out).mono ?_); rintro e w13 ⟨rfl, hb⟩; refine ⟨_, rfl, ?_⟩; refine zA2 (zY BK540.out hb) (below_step (zH1 HB.out GE540.out) hb) ?_; clear BK540 HB; intro BK540 HB; (try clear hb); (try clear hb2); (try clear hk); (try clear hi); obtain ⟨hcz14_0, hcz14_1, hcz14_2, hcz14_3⟩ := zc4 BK540; obtain ⟨hfz14_0, hfz14_1, hfz14_2, hfz14_3⟩ := zf4 BK540) | ((with_reducible refine gate_callee (f := 42) rfl ?_); refine goesL_ (some 17) rfl rfl Tryz.func42 (by kernel_rfl) rfl #[.int .i64 a1, .int .i64 0, .int .i64 (wrap64 (a0_0 - 1))] rfl zM ?_; (with_reducible refine (spec_l01In.calls a1 0 (wrap64 (a0_0 - 1)) true _ A6.out).mono ?_); rintro e w' ⟨rfl, ⟨nd, rfl⟩⟩; refine ⟨_, rfl, ?_⟩) | (go_at_call 42; (with_reducible refine (spec_l01In.calls a2 0 (wrap64 (a0_0 - 1)) true _ A8.out).mono ?_); rintro e w' ⟨rfl, ⟨nd, rfl⟩⟩))
          go_ret2
          exact ⟨zE, zH1 HB.out GE540.out⟩
        · rw [if_neg c10] at H
          have c10b0 := zq3 c10
          have c10b1 := zq4 c10
          obtain ⟨t544, A15, H⟩ := zb H
          simp only [Option.some.injEq, Prod.mk.injEq] at H
          obtain ⟨rfl, rfl⟩ := H
          go_enter Tryz.func27, Tryz.ntmps27
          go_wp2_with (first | ((with_reducible refine gate_dst (N := 3) rfl ?_); refine zX 3 #[.int .i64 a0_0, .int .i64 a0_1, .int .i64 a0_2, .int .i64 a0_3] 25 ?_; intro gb540 hg w16 hbox hb; refine zA4 (below_step (zH HB.out) hb) (hbox) ((zS hg (below_size (zH HB.out)) : w.heap.size ≤ gb540)) ((zS hg (below_size (zH HB.out)) : w.heap.size ≤ gb540)) ?_; clear HB; intro HB BK540 GW540 GE540; clear hb hbox hg; obtain ⟨hcz17_0, hcz17_1, hcz17_2, hcz17_3⟩ := zc4 BK540; obtain ⟨hfz17_0, hfz17_1, hfz17_2, hfz17_3⟩ := zf4 BK540) | ((with_reducible refine gate_callee (f := 47) rfl ?_); refine goesL_ (some 10) rfl rfl Tryz.func47 (by kernel_rfl) rfl #[.agg #[.int .i64 a0_0, .int .i64 a0_1, .int .i64 a0_2, .int .i64 a0_3]] rfl zM ?_; (with_reducible refine (spec_l05Is.calls a0_0 a0_1 a0_2 a0_3 true _ A4.out).mono ?_); rintro e w18 ⟨rfl, hb⟩; refine ⟨_, rfl, ?_⟩; refine zA2 (zY BK540.out hb) (below_step (zH1 HB.out GE540.out) hb) ?_; clear BK540 HB; intro BK540 HB; (try clear hb); (try clear hb2); (try clear hk); (try clear hi); obtain ⟨hcz19_0, hcz19_1, hcz19_2, hcz19_3⟩ := zc4 BK540; obtain ⟨hfz19_0, hfz19_1, hfz19_2, hfz19_3⟩ := zf4 BK540) | ((with_reducible refine gate_callee (f := 42) rfl ?_); refine goesL_ (some 17) rfl rfl Tryz.func42 (by kernel_rfl) rfl #[.int .i64 a1, .int .i64 0, .int .i64 (wrap64 (a0_0 - 1))] rfl zM ?_; (with_reducible refine (spec_l01In.calls a1 0 (wrap64 (a0_0 - 1)) true _ A6.out).mono ?_); rintro e w' ⟨rfl, ⟨nd, rfl⟩⟩; refine ⟨_, rfl, ?_⟩) | (go_at_call 42; (with_reducible refine (spec_l01In.calls a2 0 (wrap64 (a0_0 - 1)) true _ A8.out).mono ?_); rintro e w' ⟨rfl, ⟨nd, rfl⟩⟩) | ((with_reducible refine gate_callee (f := 62) rfl ?_); refine goesL_ (some 35) rfl rfl Tryz.func62 (by kernel_rfl) rfl #[.agg #[.int .i64 a0_0, .int .i64 a0_1, .int .i64 a0_2, .int .i64 a0_3], .int .i64 a1, .int .i64 a2] rfl zM ?_; (with_reducible refine (spec_l05Joined.calls a0_0 a0_1 a0_2 a0_3 a1 a2 t544 _ A15.out).mono ?_); rintro e w20 ⟨rfl, hb⟩; refine ⟨_, rfl, ?_⟩; refine zA2 (zY BK540.out hb) (below_step (zH1 HB.out GE540.out) hb) ?_; clear BK540 HB; intro BK540 HB; (try clear hb); (try clear hb2); (try clear hk); (try clear hi)))
          go_ret2
          exact ⟨zE, zH1 HB.out GE540.out⟩
      · replace c9 := Bool.eq_false_iff.mpr c9
        subst c9
        have H1 : (some (false, 2)) = some (r1, r2) := by rw [if_neg (show ¬ (false = true) by decide)] at H; exact H
        clear H
        have H := H1
        clear H1
        simp only [Option.some.injEq, Prod.mk.injEq] at H
        obtain ⟨rfl, rfl⟩ := H
        go_enter Tryz.func27, Tryz.ntmps27
        go_wp2_with (first | ((with_reducible refine gate_dst (N := 3) rfl ?_); refine zX 3 #[.int .i64 a0_0, .int .i64 a0_1, .int .i64 a0_2, .int .i64 a0_3] 25 ?_; intro gb540 hg w21 hbox hb; refine zA4 (below_step (zH HB.out) hb) (hbox) ((zS hg (below_size (zH HB.out)) : w.heap.size ≤ gb540)) ((zS hg (below_size (zH HB.out)) : w.heap.size ≤ gb540)) ?_; clear HB; intro HB BK540 GW540 GE540; clear hb hbox hg; obtain ⟨hcz22_0, hcz22_1, hcz22_2, hcz22_3⟩ := zc4 BK540; obtain ⟨hfz22_0, hfz22_1, hfz22_2, hfz22_3⟩ := zf4 BK540) | ((with_reducible refine gate_callee (f := 47) rfl ?_); refine goesL_ (some 10) rfl rfl Tryz.func47 (by kernel_rfl) rfl #[.agg #[.int .i64 a0_0, .int .i64 a0_1, .int .i64 a0_2, .int .i64 a0_3]] rfl zM ?_; (with_reducible refine (spec_l05Is.calls a0_0 a0_1 a0_2 a0_3 true _ A4.out).mono ?_); rintro e w23 ⟨rfl, hb⟩; refine ⟨_, rfl, ?_⟩; refine zA2 (zY BK540.out hb) (below_step (zH1 HB.out GE540.out) hb) ?_; clear BK540 HB; intro BK540 HB; (try clear hb); (try clear hb2); (try clear hk); (try clear hi); obtain ⟨hcz24_0, hcz24_1, hcz24_2, hcz24_3⟩ := zc4 BK540; obtain ⟨hfz24_0, hfz24_1, hfz24_2, hfz24_3⟩ := zf4 BK540) | ((with_reducible refine gate_callee (f := 42) rfl ?_); refine goesL_ (some 17) rfl rfl Tryz.func42 (by kernel_rfl) rfl #[.int .i64 a1, .int .i64 0, .int .i64 (wrap64 (a0_0 - 1))] rfl zM ?_; (with_reducible refine (spec_l01In.calls a1 0 (wrap64 (a0_0 - 1)) true _ A6.out).mono ?_); rintro e w' ⟨rfl, ⟨nd, rfl⟩⟩; refine ⟨_, rfl, ?_⟩) | (go_at_call 42; (with_reducible refine (spec_l01In.calls a2 0 (wrap64 (a0_0 - 1)) false _ A8.out).mono ?_); rintro e w' ⟨rfl, ⟨nd, rfl⟩⟩))
        go_ret2
        exact ⟨zE, zH1 HB.out GE540.out⟩
    · replace c7 := Bool.eq_false_iff.mpr c7
      subst c7
      have H1 : (some (false, 2)) = some (r1, r2) := by rw [if_neg (show ¬ (false = true) by decide)] at H; exact H
      clear H
      have H := H1
      clear H1
      simp only [Option.some.injEq, Prod.mk.injEq] at H
      obtain ⟨rfl, rfl⟩ := H
      go_enter Tryz.func27, Tryz.ntmps27
      go_wp2_with (first | ((with_reducible refine gate_dst (N := 3) rfl ?_); refine zX 3 #[.int .i64 a0_0, .int .i64 a0_1, .int .i64 a0_2, .int .i64 a0_3] 25 ?_; intro gb540 hg w25 hbox hb; refine zA4 (below_step (zH HB.out) hb) (hbox) ((zS hg (below_size (zH HB.out)) : w.heap.size ≤ gb540)) ((zS hg (below_size (zH HB.out)) : w.heap.size ≤ gb540)) ?_; clear HB; intro HB BK540 GW540 GE540; clear hb hbox hg; obtain ⟨hcz26_0, hcz26_1, hcz26_2, hcz26_3⟩ := zc4 BK540; obtain ⟨hfz26_0, hfz26_1, hfz26_2, hfz26_3⟩ := zf4 BK540) | ((with_reducible refine gate_callee (f := 47) rfl ?_); refine goesL_ (some 10) rfl rfl Tryz.func47 (by kernel_rfl) rfl #[.agg #[.int .i64 a0_0, .int .i64 a0_1, .int .i64 a0_2, .int .i64 a0_3]] rfl zM ?_; (with_reducible refine (spec_l05Is.calls a0_0 a0_1 a0_2 a0_3 true _ A4.out).mono ?_); rintro e w27 ⟨rfl, hb⟩; refine ⟨_, rfl, ?_⟩; refine zA2 (zY BK540.out hb) (below_step (zH1 HB.out GE540.out) hb) ?_; clear BK540 HB; intro BK540 HB; (try clear hb); (try clear hb2); (try clear hk); (try clear hi); obtain ⟨hcz28_0, hcz28_1, hcz28_2, hcz28_3⟩ := zc4 BK540; obtain ⟨hfz28_0, hfz28_1, hfz28_2, hfz28_3⟩ := zf4 BK540) | ((with_reducible refine gate_callee (f := 42) rfl ?_); refine goesL_ (some 17) rfl rfl Tryz.func42 (by kernel_rfl) rfl #[.int .i64 a1, .int .i64 0, .int .i64 (wrap64 (a0_0 - 1))] rfl zM ?_; (with_reducible refine (spec_l01In.calls a1 0 (wrap64 (a0_0 - 1)) false _ A6.out).mono ?_); rintro e w' ⟨rfl, ⟨nd, rfl⟩⟩; refine ⟨_, rfl, ?_⟩))
      go_ret2
      exact ⟨zE, zH1 HB.out GE540.out⟩
  · replace c5 := Bool.eq_false_iff.mpr c5
    subst c5
    have H1 : (some (false, 1)) = some (r1, r2) := by rw [if_neg (show ¬ (false = true) by decide)] at H; exact H
    clear H
    have H := H1
    clear H1
    simp only [Option.some.injEq, Prod.mk.injEq] at H
    obtain ⟨rfl, rfl⟩ := H
    go_enter Tryz.func27, Tryz.ntmps27
    go_wp2_with (first | ((with_reducible refine gate_dst (N := 3) rfl ?_); refine zX 3 #[.int .i64 a0_0, .int .i64 a0_1, .int .i64 a0_2, .int .i64 a0_3] 25 ?_; intro gb540 hg w29 hbox hb; refine zA4 (below_step (zH HB.out) hb) (hbox) ((zS hg (below_size (zH HB.out)) : w.heap.size ≤ gb540)) ((zS hg (below_size (zH HB.out)) : w.heap.size ≤ gb540)) ?_; clear HB; intro HB BK540 GW540 GE540; clear hb hbox hg; obtain ⟨hcz30_0, hcz30_1, hcz30_2, hcz30_3⟩ := zc4 BK540; obtain ⟨hfz30_0, hfz30_1, hfz30_2, hfz30_3⟩ := zf4 BK540) | ((with_reducible refine gate_callee (f := 47) rfl ?_); refine goesL_ (some 10) rfl rfl Tryz.func47 (by kernel_rfl) rfl #[.agg #[.int .i64 a0_0, .int .i64 a0_1, .int .i64 a0_2, .int .i64 a0_3]] rfl zM ?_; (with_reducible refine (spec_l05Is.calls a0_0 a0_1 a0_2 a0_3 false _ A4.out).mono ?_); rintro e w31 ⟨rfl, hb⟩; refine ⟨_, rfl, ?_⟩; refine zA2 (zY BK540.out hb) (below_step (zH1 HB.out GE540.out) hb) ?_; clear BK540 HB; intro BK540 HB; (try clear hb); (try clear hb2); (try clear hk); (try clear hi)))
    go_ret2
    exact ⟨zE, zH1 HB.out GE540.out⟩

/-! ### spec_l05Text: function 63 -/
mutual
def spec_l05Text.l0 : Nat → ByteArray → Int → Int → Int → Int → Int → Option (ByteArray)
  | 0, _, _, _, _, _, _ => none
  | k + 1, x3, x4, x546000, x546001, x546002, x546003 => if x4 < x546000 then (if 0 ≤ (IntKind.u64.wrap (x4)) then (if (Go.bits .and .i64 (shr .i64 x546002 (IntKind.u64.wrap (x4))) 1) = 1 then (if x3.size + 1 ≤ 9223372036854775807 then (spec_l05Text.l0 k (x3 ++ (⟨#[114]⟩ : ByteArray)) (wrap64 (x4 + 1)) x546000 x546001 x546002 x546003) else (none)) else (if (Go.bits .and .i64 (shr .i64 x546003 (IntKind.u64.wrap (x4))) 1) = 1 then (if x3.size + 1 ≤ 9223372036854775807 then (spec_l05Text.l0 k (x3 ++ (⟨#[98]⟩ : ByteArray)) (wrap64 (x4 + 1)) x546000 x546001 x546002 x546003) else (none)) else (if x3.size + 1 ≤ 9223372036854775807 then (spec_l05Text.l0 k (x3 ++ (⟨#[46]⟩ : ByteArray)) (wrap64 (x4 + 1)) x546000 x546001 x546002 x546003) else (none)))) else (none)) else (spec_l05Text.l1 k x3 1 x546000 x546001 x546002 x546003)
def spec_l05Text.l1 : Nat → ByteArray → Int → Int → Int → Int → Int → Option (ByteArray)
  | 0, _, _, _, _, _, _ => none
  | k + 1, x3, x5, x546000, x546001, x546002, x546003 => if x5 < x546000 then (if x3.size + 1 ≤ 9223372036854775807 then (spec_l05Text.l2 k (x3 ++ (⟨#[44]⟩ : ByteArray)) x5 0 x546000 x546001 x546002 x546003) else (none)) else (some x3)
def spec_l05Text.l2 : Nat → ByteArray → Int → Int → Int → Int → Int → Int → Option (ByteArray)
  | 0, _, _, _, _, _, _, _ => none
  | k + 1, x3, x5, x6, x546000, x546001, x546002, x546003 => if x6 < x5 then ((spec_l05Joined.f x546000 x546001 x546002 x546003 x6 x5).bind fun t546 => (if t546 = true then (if x3.size + 1 ≤ 9223372036854775807 then (spec_l05Text.l2 k (x3 ++ (⟨#[49]⟩ : ByteArray)) x5 (wrap64 (x6 + 1)) x546000 x546001 x546002 x546003) else (none)) else (if x3.size + 1 ≤ 9223372036854775807 then (spec_l05Text.l2 k (x3 ++ (⟨#[48]⟩ : ByteArray)) x5 (wrap64 (x6 + 1)) x546000 x546001 x546002 x546003) else (none)))) else (spec_l05Text.l1 k x3 (wrap64 (x5 + 1)) x546000 x546001 x546002 x546003)
end
def spec_l05Text.f (k : Nat) (a0_0 : Int) (a0_1 : Int) (a0_2 : Int) (a0_3 : Int) : Option (ByteArray) := spec_l05Text.l0 k (⟨#[]⟩ : ByteArray) 0 a0_0 a0_1 a0_2 a0_3
set_option maxHeartbeats 8000000 in
set_option maxRecDepth 100000 in
theorem spec_l05Text.calls (k : Nat) (a0_0 : Int) (a0_1 : Int) (a0_2 : Int) (a0_3 : Int) (r : ByteArray) (w : World) (h : spec_l05Text.f k a0_0 a0_1 a0_2 a0_3 = some r) :
    Calls Tryz.prog 63 #[.agg #[.int .i64 a0_0, .int .i64 a0_1, .int .i64 a0_2, .int .i64 a0_3]] w fun e w' => e = .returned (.string r) ∧ Below w.heap.size w w' := by
  have hu25 := Tryz.underlying25
  have HB := Aside0.mk (Below.refl w.heap.size w)
  have H : (spec_l05Text.l0 k (⟨#[]⟩ : ByteArray) 0 a0_0 a0_1 a0_2 a0_3) = some r := h
  clear h
  have H' := Aside0.mk H
  clear H
  go_enter Tryz.func63, Tryz.ntmps63
  go_wp2_with (first | ((with_reducible refine gate_dst (N := 1) rfl ?_); refine zX 1 #[.int .i64 a0_0, .int .i64 a0_1, .int .i64 a0_2, .int .i64 a0_3] 25 ?_; intro gb545 hg w2 hbox hb; refine zA4 (below_step (zH HB.out) hb) (hbox) ((zS hg (below_size (zH HB.out)) : w.heap.size ≤ gb545)) ((zS hg (below_size (zH HB.out)) : w.heap.size ≤ gb545)) ?_; clear HB; intro HB BK545 GW545 GE545; clear hb hbox hg))
  go_loopg [3, 4] k (fun kq v3 v4 w' => ∃ (x3_1 : ByteArray) (x4_1 : Int), v3 = .string x3_1 ∧ v4 = .int .i64 x4_1 ∧ Aside0 (spec_l05Text.l0 kq x3_1 x4_1 a0_0 a0_1 a0_2 a0_3 = some r) ∧ Aside0 (kq ≤ k) ∧ Aside0 (w'.heap[gb545]? = some (.cells #[.int .i64 a0_0, .int .i64 a0_1, .int .i64 a0_2, .int .i64 a0_3] 25 (0, 0))) ∧ Aside0 (Below w.heap.size w w'))
  case atStart => exact ⟨((⟨#[]⟩ : ByteArray)), (0), (zF), (zF), H', ⟨Nat.le_refl _⟩, ⟨zB BK545.out⟩, ⟨zH1 HB.out GE545.out⟩⟩
  case round =>
    clear H'
    try clear p2
    obtain ⟨x3_1, x4_1, rfl, rfl, HA, HK1, BK545, HB⟩ := hrel
    cases gk with
    | zero => exact absurd HA.out (by simp [spec_l05Text.l0])
    | succ k1 =>
      have H := HA.out
      clear HA
      simp only [spec_l05Text.l0] at H
      by_cases c3 : x4_1 < a0_0
      · rw [if_pos c3] at H
        have c3b0 := decide_eq_true c3
        clear c3
        obtain ⟨ji4, hji4⟩ := zj (IntKind.u64.wrap (x4_1))
        (first | rw [hji4] at H | simp only [hji4] at H)
        by_cases c5 : 0 ≤ (ji4)
        · rw [if_pos c5] at H
          have c5b0 := eq_true c5
          have c5b1 := decide_eq_true c5
          clear c5
          obtain ⟨ji6, hji6⟩ := zj (shr .i64 a0_2 (ji4))
          (first | rw [hji6] at H | simp only [hji6] at H)
          have hji6_ : (a0_2 / 2 ^ min (ji4).toNat 64) = ji6 := hji6
          have hji6z : (ji4) ≤ 64 → (a0_2 / 2 ^ (ji4).toNat) = ji6 := shr_small hji6
          by_cases c7 : (Go.bits .and .i64 (ji6) 1) = 1
          · rw [if_pos c7] at H
            have c7b0 := zq1 c7
            have c7b1 := zq2 c7
            clear c7
            by_cases c8 : x3_1.size + 1 ≤ 9223372036854775807
            · rw [if_pos c8] at H
              have c8b0 := eq_true c8
              have c8b1 := decide_eq_true c8
              try have c8b2 : (9223372036854775807 < x3_1.size + 1) = False := eq_false (Nat.not_lt.2 c8)
              have H' := Aside0.mk H
              clear H
              obtain ⟨hcz9_0, hcz9_1, hcz9_2, hcz9_3⟩ := zc4 BK545
              obtain ⟨hfz9_0, hfz9_1, hfz9_2, hfz9_3⟩ := zf4 BK545
              go_wp2
              go_roundg k1
              case measure => have := HK1.out; omega
              case rel => exact ⟨(x3_1 ++ (⟨#[114]⟩ : ByteArray)), (wrap64 (x4_1 + 1)), (zF), (zF), H', ⟨by have := HK1.out; omega⟩, ⟨zB BK545.out⟩, ⟨zH1 HB.out GE545.out⟩⟩
            · rw [if_neg c8] at H
              exact absurd H (by simp)
          · rw [if_neg c7] at H
            have c7b0 := zq3 c7
            have c7b1 := zq4 c7
            have c10b0 := eq_true (of_decide_eq_true (by first | (with_reducible assumption) | assumption) : 0 ≤ (ji4))
            obtain ⟨ji11, hji11⟩ := zj (shr .i64 a0_3 (ji4))
            (first | rw [hji11] at H | simp only [hji11] at H)
            have hji11_ : (a0_3 / 2 ^ min (ji4).toNat 64) = ji11 := hji11
            have hji11z : (ji4) ≤ 64 → (a0_3 / 2 ^ (ji4).toNat) = ji11 := shr_small hji11
            by_cases c12 : (Go.bits .and .i64 (ji11) 1) = 1
            · rw [if_pos c12] at H
              have c12b0 := zq1 c12
              have c12b1 := zq2 c12
              clear c12
              by_cases c13 : x3_1.size + 1 ≤ 9223372036854775807
              · rw [if_pos c13] at H
                have c13b0 := eq_true c13
                have c13b1 := decide_eq_true c13
                try have c13b2 : (9223372036854775807 < x3_1.size + 1) = False := eq_false (Nat.not_lt.2 c13)
                have H' := Aside0.mk H
                clear H
                obtain ⟨hcz14_0, hcz14_1, hcz14_2, hcz14_3⟩ := zc4 BK545
                obtain ⟨hfz14_0, hfz14_1, hfz14_2, hfz14_3⟩ := zf4 BK545
                go_wp2
                go_roundg k1
                case measure => have := HK1.out; omega
                case rel => exact ⟨(x3_1 ++ (⟨#[98]⟩ : ByteArray)), (wrap64 (x4_1 + 1)), (zF), (zF), H', ⟨by have := HK1.out; omega⟩, ⟨zB BK545.out⟩, ⟨zH1 HB.out GE545.out⟩⟩
              · rw [if_neg c13] at H
                exact absurd H (by simp)
            · rw [if_neg c12] at H
              have c12b0 := zq3 c12
              have c12b1 := zq4 c12
              by_cases c15 : x3_1.size + 1 ≤ 9223372036854775807
              · rw [if_pos c15] at H
                have c15b0 := eq_true c15
                have c15b1 := decide_eq_true c15
                try have c15b2 : (9223372036854775807 < x3_1.size + 1) = False := eq_false (Nat.not_lt.2 c15)
                have H' := Aside0.mk H
                clear H
                obtain ⟨hcz16_0, hcz16_1, hcz16_2, hcz16_3⟩ := zc4 BK545
                obtain ⟨hfz16_0, hfz16_1, hfz16_2, hfz16_3⟩ := zf4 BK545
                go_wp2
                go_roundg k1
                case measure => have := HK1.out; omega
                case rel => exact ⟨(x3_1 ++ (⟨#[46]⟩ : ByteArray)), (wrap64 (x4_1 + 1)), (zF), (zF), H', ⟨by have := HK1.out; omega⟩, ⟨zB BK545.out⟩, ⟨zH1 HB.out GE545.out⟩⟩
              · rw [if_neg c15] at H
                exact absurd H (by simp)
        · rw [if_neg c5] at H
          exact absurd H (by simp)
      · rw [if_neg c3] at H
        have c3b0 := decide_eq_false c3
        clear c3
        have H' := Aside0.mk H
        clear H
        obtain ⟨hcz17_0, hcz17_1, hcz17_2, hcz17_3⟩ := zc4 BK545
        obtain ⟨hfz17_0, hfz17_1, hfz17_2, hfz17_3⟩ := zf4 BK545
        go_wp2
        go_loopg [3, 5] k1 (fun kq v3 v5 w' => ∃ (x3_2 : ByteArray) (x5_2 : Int), v3 = .string x3_2 ∧ v5 = .int .i64 x5_2 ∧ Aside0 (spec_l05Text.l1 kq x3_2 x5_2 a0_0 a0_1 a0_2 a0_3 = some r) ∧ Aside0 (kq ≤ k1) ∧ Aside0 (w'.heap[gb545]? = some (.cells #[.int .i64 a0_0, .int .i64 a0_1, .int .i64 a0_2, .int .i64 a0_3] 25 (0, 0))) ∧ Aside0 (Below w.heap.size w w'))
        case atStart => exact ⟨(x3_1), (1), (zF), (zF), H', ⟨Nat.le_refl _⟩, ⟨zB BK545.out⟩, ⟨zH1 HB.out GE545.out⟩⟩
        case round =>
          clear H'
          try clear c1
          try clear p2
          try clear c3
          try clear c3b0
          try clear c5
          try clear c5b0
          try clear c5b1
          try clear c6
          try clear p6
          try clear c7
          try clear c7b0
          try clear c7b1
          try clear c8
          try clear c8b0
          try clear c8b1
          try clear c8b2
          try clear c10
          try clear c10b0
          try clear c12
          try clear c12b0
          try clear c12b1
          try clear c13
          try clear c13b0
          try clear c13b1
          try clear c13b2
          try clear c15
          try clear c15b0
          try clear c15b1
          try clear c15b2
          try clear hcz14_0
          try clear hcz14_1
          try clear hcz14_2
          try clear hcz14_3
          try clear hcz16_0
          try clear hcz16_1
          try clear hcz16_2
          try clear hcz16_3
          try clear hcz17_0
          try clear hcz17_1
          try clear hcz17_2
          try clear hcz17_3
          try clear hcz9_0
          try clear hcz9_1
          try clear hcz9_2
          try clear hcz9_3
          try clear hfz14_0
          try clear hfz14_1
          try clear hfz14_2
          try clear hfz14_3
          try clear hfz16_0
          try clear hfz16_1
          try clear hfz16_2
          try clear hfz16_3
          try clear hfz17_0
          try clear hfz17_1
          try clear hfz17_2
          try clear hfz17_3
          try clear hfz9_0
          try clear hfz9_1
          try clear hfz9_2
          try clear hfz9_3
          try clear p2
          obtain ⟨x3_2, x5_2, rfl, rfl, HA, HK2, BK545, HB⟩ := hrel
          cases gk with
          | zero => exact absurd HA.out (by simp [spec_l05Text.l1])
          | succ k2 =>
            have H := HA.out
            clear HA
            simp only [spec_l05Text.l1] at H
            by_cases c18 : x5_2 < a0_0
            · rw [if_pos c18] at H
              have c18b0 := decide_eq_true c18
              clear c18
              by_cases c19 : x3_2.size + 1 ≤ 9223372036854775807
              · rw [if_pos c19] at H
                have c19b0 := eq_true c19
                have c19b1 := decide_eq_true c19
                try have c19b2 : (9223372036854775807 < x3_2.size + 1) = False := eq_false (Nat.not_lt.2 c19)
                have H' := Aside0.mk H
                clear H
                obtain ⟨hcz20_0, hcz20_1, hcz20_2, hcz20_3⟩ := zc4 BK545
                obtain ⟨hfz20_0, hfz20_1, hfz20_2, hfz20_3⟩ := zf4 BK545
                go_wp2
                go_loopg [3, 6] k2 (fun kq v3 v6 w' => ∃ (x3_3 : ByteArray) (x6_3 : Int), v3 = .string x3_3 ∧ v6 = .int .i64 x6_3 ∧ Aside0 (spec_l05Text.l2 kq x3_3 x5_2 x6_3 a0_0 a0_1 a0_2 a0_3 = some r) ∧ Aside0 (kq ≤ k2) ∧ Aside0 (w'.heap[gb545]? = some (.cells #[.int .i64 a0_0, .int .i64 a0_1, .int .i64 a0_2, .int .i64 a0_3] 25 (0, 0))) ∧ Aside0 (Below w.heap.size w w'))
                case atStart => exact ⟨(x3_2 ++ (⟨#[44]⟩ : ByteArray)), (0), (zF), (zF), H', ⟨Nat.le_refl _⟩, ⟨zB BK545.out⟩, ⟨zH1 HB.out GE545.out⟩⟩
                case round =>
                  clear H'
                  try clear c1
                  try clear p2
                  try clear c3
                  try clear c3b0
                  try clear c5
                  try clear c5b0
                  try clear c5b1
                  try clear c6
                  try clear p6
                  try clear c7
                  try clear c7b0
                  try clear c7b1
                  try clear c8
                  try clear c8b0
                  try clear c8b1
                  try clear c8b2
                  try clear c10
                  try clear c10b0
                  try clear c12
                  try clear c12b0
                  try clear c12b1
                  try clear c13
                  try clear c13b0
                  try clear c13b1
                  try clear c13b2
                  try clear c15
                  try clear c15b0
                  try clear c15b1
                  try clear c15b2
                  try clear c18
                  try clear c18b0
                  try clear c19
                  try clear c19b0
                  try clear c19b1
                  try clear c19b2
                  try clear hcz14_0
                  try clear hcz14_1
                  try clear hcz14_2
                  try clear hcz14_3
                  try clear hcz16_0
                  try clear hcz16_1
                  try clear hcz16_2
                  try clear hcz16_3
                  try clear hcz17_0
                  try clear hcz17_1
                  try clear hcz17_2
                  try clear hcz17_3
                  try clear hcz20_0
                  try clear hcz20_1
                  try clear hcz20_2
                  try clear hcz20_3
                  try clear hcz9_0
                  try clear hcz9_1
                  try clear hcz9_2
                  try clear hcz9_3
                  try clear hfz14_0
                  try clear hfz14_1
                  try clear hfz14_2
                  try clear hfz14_3
                  try clear hfz16_0
                  try clear hfz16_1
                  try clear hfz16_2
                  try clear hfz16_3
                  try clear hfz17_0
                  try clear hfz17_1
                  try clear hfz17_2
                  try clear hfz17_3
                  try clear hfz20_0
                  try clear hfz20_1
                  try clear hfz20_2
                  try clear hfz20_3
                  try clear hfz9_0
                  try clear hfz9_1
                  try clear hfz9_2
                  try clear hfz9_3
                  try clear p2
                  try clear p6
                  obtain ⟨x3_3, x6_3, rfl, rfl, HA, HK3, BK545, HB⟩ := hrel
                  cases gk with
                  | zero => exact absurd HA.out (by simp [spec_l05Text.l2])
                  | succ k3 =>
                    have H := HA.out
                    clear HA
                    simp only [spec_l05Text.l2] at H
                    by_cases c21 : x6_3 < x5_2
                    · rw [if_pos c21] at H
                      have c21b0 := decide_eq_true c21
                      clear c21
                      obtain ⟨t546, A22, H⟩ := zb H
                      by_cases c23 : t546 = true
                      · subst c23
                        have H1 : (if x3_3.size + 1 ≤ 9223372036854775807 then (spec_l05Text.l2 k3 (x3_3 ++ (⟨#[49]⟩ : ByteArray)) x5_2 (wrap64 (x6_3 + 1)) a0_0 a0_1 a0_2 a0_3) else (none)) = some r := by rw [if_pos rfl] at H; exact H
                        clear H
                        have H := H1
                        clear H1
                        by_cases c24 : x3_3.size + 1 ≤ 9223372036854775807
                        · rw [if_pos c24] at H
                          have c24b0 := eq_true c24
                          have c24b1 := decide_eq_true c24
                          try have c24b2 : (9223372036854775807 < x3_3.size + 1) = False := eq_false (Nat.not_lt.2 c24)
                          have H' := Aside0.mk H
                          clear H
                          obtain ⟨hcz25_0, hcz25_1, hcz25_2, hcz25_3⟩ := zc4 BK545
                          obtain ⟨hfz25_0, hfz25_1, hfz25_2, hfz25_3⟩ := zf4 BK545
                          go_wp2_with (first | ((with_reducible refine gate_callee (f := 62) rfl ?_); refine goesL_ (some 51) rfl rfl Tryz.func62 (by kernel_rfl) rfl #[.agg #[.int .i64 a0_0, .int .i64 a0_1, .int .i64 a0_2, .int .i64 a0_3], .int .i64 x6_3, .int .i64 x5_2] rfl zM ?_; (with_reducible refine (spec_l05Joined.calls a0_0 a0_1 a0_2 a0_3 x6_3 x5_2 true _ A22.out).mono ?_); rintro e w26 ⟨rfl, hb⟩; refine ⟨_, rfl, ?_⟩; refine zA2 (zY BK545.out hb) (below_step (zH1 HB.out GE545.out) hb) ?_; clear BK545 HB; intro BK545 HB; (try clear hb); (try clear hb2); (try clear hk); (try clear hi)))
                          go_roundg k3
                          case measure => have := HK1.out; have := HK2.out; have := HK3.out; omega
                          case rel => exact ⟨(x3_3 ++ (⟨#[49]⟩ : ByteArray)), (wrap64 (x6_3 + 1)), (zF), (zF), H', ⟨by have := HK1.out; have := HK2.out; have := HK3.out; omega⟩, ⟨zB BK545.out⟩, ⟨zH1 HB.out GE545.out⟩⟩
                        · rw [if_neg c24] at H
                          exact absurd H (by simp)
                      · replace c23 := Bool.eq_false_iff.mpr c23
                        subst c23
                        have H1 : (if x3_3.size + 1 ≤ 9223372036854775807 then (spec_l05Text.l2 k3 (x3_3 ++ (⟨#[48]⟩ : ByteArray)) x5_2 (wrap64 (x6_3 + 1)) a0_0 a0_1 a0_2 a0_3) else (none)) = some r := by rw [if_neg (show ¬ (false = true) by decide)] at H; exact H
                        clear H
                        have H := H1
                        clear H1
                        by_cases c27 : x3_3.size + 1 ≤ 9223372036854775807
                        · rw [if_pos c27] at H
                          have c27b0 := eq_true c27
                          have c27b1 := decide_eq_true c27
                          try have c27b2 : (9223372036854775807 < x3_3.size + 1) = False := eq_false (Nat.not_lt.2 c27)
                          have H' := Aside0.mk H
                          clear H
                          obtain ⟨hcz28_0, hcz28_1, hcz28_2, hcz28_3⟩ := zc4 BK545
                          obtain ⟨hfz28_0, hfz28_1, hfz28_2, hfz28_3⟩ := zf4 BK545
                          go_wp2_with (first | ((with_reducible refine gate_callee (f := 62) rfl ?_); refine goesL_ (some 51) rfl rfl Tryz.func62 (by kernel_rfl) rfl #[.agg #[.int .i64 a0_0, .int .i64 a0_1, .int .i64 a0_2, .int .i64 a0_3], .int .i64 x6_3, .int .i64 x5_2] rfl zM ?_; (with_reducible refine (spec_l05Joined.calls a0_0 a0_1 a0_2 a0_3 x6_3 x5_2 false _ A22.out).mono ?_); rintro e w29 ⟨rfl, hb⟩; refine ⟨_, rfl, ?_⟩; refine zA2 (zY BK545.out hb) (below_step (zH1 HB.out GE545.out) hb) ?_; clear BK545 HB; intro BK545 HB; (try clear hb); (try clear hb2); (try clear hk); (try clear hi)))
                          go_roundg k3
                          case measure => have := HK1.out; have := HK2.out; have := HK3.out; omega
                          case rel => exact ⟨(x3_3 ++ (⟨#[48]⟩ : ByteArray)), (wrap64 (x6_3 + 1)), (zF), (zF), H', ⟨by have := HK1.out; have := HK2.out; have := HK3.out; omega⟩, ⟨zB BK545.out⟩, ⟨zH1 HB.out GE545.out⟩⟩
                        · rw [if_neg c27] at H
                          exact absurd H (by simp)
                    · rw [if_neg c21] at H
                      have c21b0 := decide_eq_false c21
                      clear c21
                      have H' := Aside0.mk H
                      clear H
                      go_wp2
                      go_roundg k3
                      case measure => have := HK1.out; have := HK2.out; have := HK3.out; omega
                      case rel => exact ⟨(x3_3), (wrap64 (x5_2 + 1)), (zF), (zF), H', ⟨by have := HK1.out; have := HK2.out; have := HK3.out; omega⟩, ⟨zB BK545.out⟩, ⟨zH1 HB.out GE545.out⟩⟩
              · rw [if_neg c19] at H
                exact absurd H (by simp)
            · rw [if_neg c18] at H
              have c18b0 := decide_eq_false c18
              clear c18
              obtain rfl := Option.some.inj H
              obtain ⟨hcz30_0, hcz30_1, hcz30_2, hcz30_3⟩ := zc4 BK545
              obtain ⟨hfz30_0, hfz30_1, hfz30_2, hfz30_3⟩ := zf4 BK545
              go_wp2
              go_ret
              exact ⟨zE, zH1 HB.out GE545.out⟩

/-! ### spec_l01Damage: function 64 -/
def spec_l01Damage.f (s0_0 : List Int) (s0_1 : Int) (s0_2 : Int) (a1 : ByteArray) : Option (ByteArray × Int × Int) := (some (([(⟨#[48]⟩ : ByteArray), (⟨#[49]⟩ : ByteArray), (⟨#[50]⟩ : ByteArray), (⟨#[57]⟩ : ByteArray), (⟨#[44]⟩ : ByteArray), (⟨#[46]⟩ : ByteArray), (⟨#[45]⟩ : ByteArray), (⟨#[32]⟩ : ByteArray), (⟨#[120]⟩ : ByteArray), (⟨#[10]⟩ : ByteArray)] : List ByteArray) : List ByteArray)).bind fun y547 => ((spec_l01Next.f s0_0 s0_1 s0_2 (y547.length : Int)).bind fun bt550 => (if 0 ≤ bt550.1 then (if bt550.1 < (y547.length : Int) then (if (a1.size : Int) = 0 then (some (rdOf ByteArray.empty y547 bt550.1, bt550.2.1, bt550.2.2)) else ((spec_l01Next.f s0_0 bt550.2.1 bt550.2.2 (a1.size : Int)).bind fun bt554 => ((spec_l01Next.f s0_0 bt554.2.1 bt554.2.2 3).bind fun bt557 => (if bt557.1 = 0 then (if 0 ≤ bt554.1 then (if bt554.1 ≤ (a1.size : Int) then (if (a1.extract 0 (bt554.1 : Int).toNat).size + (rdOf ByteArray.empty y547 bt550.1).size ≤ 9223372036854775807 then (if 0 ≤ (wrap64 (bt554.1 + 1)) then (if (wrap64 (bt554.1 + 1)) ≤ (a1.size : Int) then (if ((a1.extract 0 (bt554.1 : Int).toNat) ++ (rdOf ByteArray.empty y547 bt550.1)).size + (a1.extract ((wrap64 (bt554.1 + 1)) : Int).toNat a1.size).size ≤ 9223372036854775807 then (some (((a1.extract 0 (bt554.1 : Int).toNat) ++ (rdOf ByteArray.empty y547 bt550.1)) ++ (a1.extract ((wrap64 (bt554.1 + 1)) : Int).toNat a1.size), bt557.2.1, bt557.2.2)) else (none)) else (none)) else (none)) else (none)) else (none)) else (none)) else (if bt557.1 = 1 then (if 0 ≤ bt554.1 then (if bt554.1 ≤ (a1.size : Int) then (if 0 ≤ (wrap64 (bt554.1 + 1)) then (if (wrap64 (bt554.1 + 1)) ≤ (a1.size : Int) then (if (a1.extract 0 (bt554.1 : Int).toNat).size + (a1.extract ((wrap64 (bt554.1 + 1)) : Int).toNat a1.size).size ≤ 9223372036854775807 then (some ((a1.extract 0 (bt554.1 : Int).toNat) ++ (a1.extract ((wrap64 (bt554.1 + 1)) : Int).toNat a1.size), bt557.2.1, bt557.2.2)) else (none)) else (none)) else (none)) else (none)) else (none)) else (if 0 ≤ bt554.1 then (if bt554.1 ≤ (a1.size : Int) then (if (a1.extract 0 (bt554.1 : Int).toNat).size + (rdOf ByteArray.empty y547 bt550.1).size ≤ 9223372036854775807 then (if ((a1.extract 0 (bt554.1 : Int).toNat) ++ (rdOf ByteArray.empty y547 bt550.1)).size + (a1.extract (bt554.1 : Int).toNat a1.size).size ≤ 9223372036854775807 then (some (((a1.extract 0 (bt554.1 : Int).toNat) ++ (rdOf ByteArray.empty y547 bt550.1)) ++ (a1.extract (bt554.1 : Int).toNat a1.size), bt557.2.1, bt557.2.2)) else (none)) else (none)) else (none)) else (none))))))) else (none)) else (none)))
set_option maxHeartbeats 8000000 in
set_option maxRecDepth 100000 in
theorem spec_l01Damage.calls (g : Nat) (s0_0 : List Int) (s0_1 : Int) (s0_2 : Int) (a1 : ByteArray) (r1 : ByteArray) (r2 : Int) (r3 : Int) (w0 w : World) (hI : IsS85 w0 w g s0_0 s0_1 s0_2) (hB : Below w0.heap.size w0 w) (h : spec_l01Damage.f s0_0 s0_1 s0_2 a1 = some (r1, r2, r3)) :
    Calls Tryz.prog 64 #[.pointer (some ⟨g, 0, none⟩), .string a1] w fun e w' => e = .returned (.string r1) ∧ IsS85 w0 w' g s0_0 r2 r3 ∧ Below w0.heap.size w0 w' ∧ KeepBut w w' g none := by
  have HI0 := Aside0.mk hI
  have HK := Aside0.mk (KeepBut.refl w g none)
  have HL := Aside0.mk hB.size
  clear hI
  have HW0 := Aside0.mk hB.size
  have HB := Aside0.mk hB
  clear hB
  have H : ((some (([(⟨#[48]⟩ : ByteArray), (⟨#[49]⟩ : ByteArray), (⟨#[50]⟩ : ByteArray), (⟨#[57]⟩ : ByteArray), (⟨#[44]⟩ : ByteArray), (⟨#[46]⟩ : ByteArray), (⟨#[45]⟩ : ByteArray), (⟨#[32]⟩ : ByteArray), (⟨#[120]⟩ : ByteArray), (⟨#[10]⟩ : ByteArray)] : List ByteArray) : List ByteArray)).bind fun y547 => ((spec_l01Next.f s0_0 s0_1 s0_2 (y547.length : Int)).bind fun bt550 => (if 0 ≤ bt550.1 then (if bt550.1 < (y547.length : Int) then (if (a1.size : Int) = 0 then (some (rdOf ByteArray.empty y547 bt550.1, bt550.2.1, bt550.2.2)) else ((spec_l01Next.f s0_0 bt550.2.1 bt550.2.2 (a1.size : Int)).bind fun bt554 => ((spec_l01Next.f s0_0 bt554.2.1 bt554.2.2 3).bind fun bt557 => (if bt557.1 = 0 then (if 0 ≤ bt554.1 then (if bt554.1 ≤ (a1.size : Int) then (if (a1.extract 0 (bt554.1 : Int).toNat).size + (rdOf ByteArray.empty y547 bt550.1).size ≤ 9223372036854775807 then (if 0 ≤ (wrap64 (bt554.1 + 1)) then (if (wrap64 (bt554.1 + 1)) ≤ (a1.size : Int) then (if ((a1.extract 0 (bt554.1 : Int).toNat) ++ (rdOf ByteArray.empty y547 bt550.1)).size + (a1.extract ((wrap64 (bt554.1 + 1)) : Int).toNat a1.size).size ≤ 9223372036854775807 then (some (((a1.extract 0 (bt554.1 : Int).toNat) ++ (rdOf ByteArray.empty y547 bt550.1)) ++ (a1.extract ((wrap64 (bt554.1 + 1)) : Int).toNat a1.size), bt557.2.1, bt557.2.2)) else (none)) else (none)) else (none)) else (none)) else (none)) else (none)) else (if bt557.1 = 1 then (if 0 ≤ bt554.1 then (if bt554.1 ≤ (a1.size : Int) then (if 0 ≤ (wrap64 (bt554.1 + 1)) then (if (wrap64 (bt554.1 + 1)) ≤ (a1.size : Int) then (if (a1.extract 0 (bt554.1 : Int).toNat).size + (a1.extract ((wrap64 (bt554.1 + 1)) : Int).toNat a1.size).size ≤ 9223372036854775807 then (some ((a1.extract 0 (bt554.1 : Int).toNat) ++ (a1.extract ((wrap64 (bt554.1 + 1)) : Int).toNat a1.size), bt557.2.1, bt557.2.2)) else (none)) else (none)) else (none)) else (none)) else (none)) else (if 0 ≤ bt554.1 then (if bt554.1 ≤ (a1.size : Int) then (if (a1.extract 0 (bt554.1 : Int).toNat).size + (rdOf ByteArray.empty y547 bt550.1).size ≤ 9223372036854775807 then (if ((a1.extract 0 (bt554.1 : Int).toNat) ++ (rdOf ByteArray.empty y547 bt550.1)).size + (a1.extract (bt554.1 : Int).toNat a1.size).size ≤ 9223372036854775807 then (some (((a1.extract 0 (bt554.1 : Int).toNat) ++ (rdOf ByteArray.empty y547 bt550.1)) ++ (a1.extract (bt554.1 : Int).toNat a1.size), bt557.2.1, bt557.2.2)) else (none)) else (none)) else (none)) else (none))))))) else (none)) else (none)))) = some (r1, r2, r3) := h
  clear h
  obtain ⟨y547, hy547⟩ : ∃ y_ : List ByteArray, y_ = (([(⟨#[48]⟩ : ByteArray), (⟨#[49]⟩ : ByteArray), (⟨#[50]⟩ : ByteArray), (⟨#[57]⟩ : ByteArray), (⟨#[44]⟩ : ByteArray), (⟨#[46]⟩ : ByteArray), (⟨#[45]⟩ : ByteArray), (⟨#[32]⟩ : ByteArray), (⟨#[120]⟩ : ByteArray), (⟨#[10]⟩ : ByteArray)] : List ByteArray)) := ⟨_, rfl⟩
  replace H : ((spec_l01Next.f s0_0 s0_1 s0_2 (y547.length : Int)).bind fun bt550 => (if 0 ≤ bt550.1 then (if bt550.1 < (y547.length : Int) then (if (a1.size : Int) = 0 then (some (rdOf ByteArray.empty y547 bt550.1, bt550.2.1, bt550.2.2)) else ((spec_l01Next.f s0_0 bt550.2.1 bt550.2.2 (a1.size : Int)).bind fun bt554 => ((spec_l01Next.f s0_0 bt554.2.1 bt554.2.2 3).bind fun bt557 => (if bt557.1 = 0 then (if 0 ≤ bt554.1 then (if bt554.1 ≤ (a1.size : Int) then (if (a1.extract 0 (bt554.1 : Int).toNat).size + (rdOf ByteArray.empty y547 bt550.1).size ≤ 9223372036854775807 then (if 0 ≤ (wrap64 (bt554.1 + 1)) then (if (wrap64 (bt554.1 + 1)) ≤ (a1.size : Int) then (if ((a1.extract 0 (bt554.1 : Int).toNat) ++ (rdOf ByteArray.empty y547 bt550.1)).size + (a1.extract ((wrap64 (bt554.1 + 1)) : Int).toNat a1.size).size ≤ 9223372036854775807 then (some (((a1.extract 0 (bt554.1 : Int).toNat) ++ (rdOf ByteArray.empty y547 bt550.1)) ++ (a1.extract ((wrap64 (bt554.1 + 1)) : Int).toNat a1.size), bt557.2.1, bt557.2.2)) else (none)) else (none)) else (none)) else (none)) else (none)) else (none)) else (if bt557.1 = 1 then (if 0 ≤ bt554.1 then (if bt554.1 ≤ (a1.size : Int) then (if 0 ≤ (wrap64 (bt554.1 + 1)) then (if (wrap64 (bt554.1 + 1)) ≤ (a1.size : Int) then (if (a1.extract 0 (bt554.1 : Int).toNat).size + (a1.extract ((wrap64 (bt554.1 + 1)) : Int).toNat a1.size).size ≤ 9223372036854775807 then (some ((a1.extract 0 (bt554.1 : Int).toNat) ++ (a1.extract ((wrap64 (bt554.1 + 1)) : Int).toNat a1.size), bt557.2.1, bt557.2.2)) else (none)) else (none)) else (none)) else (none)) else (none)) else (if 0 ≤ bt554.1 then (if bt554.1 ≤ (a1.size : Int) then (if (a1.extract 0 (bt554.1 : Int).toNat).size + (rdOf ByteArray.empty y547 bt550.1).size ≤ 9223372036854775807 then (if ((a1.extract 0 (bt554.1 : Int).toNat) ++ (rdOf ByteArray.empty y547 bt550.1)).size + (a1.extract (bt554.1 : Int).toNat a1.size).size ≤ 9223372036854775807 then (some (((a1.extract 0 (bt554.1 : Int).toNat) ++ (rdOf ByteArray.empty y547 bt550.1)) ++ (a1.extract (bt554.1 : Int).toNat a1.size), bt557.2.1, bt557.2.2)) else (none)) else (none)) else (none)) else (none))))))) else (none)) else (none))) = some (r1, r2, r3) := by first | (rw [hy547]; with_reducible exact H) | (have H2_ := (Option.bind_some _ _).symm.trans H; rw [hy547]; with_reducible exact H2_) | (have H2_ := (Option.bind_some _ _).symm.trans H; with_reducible exact H2_) | with_reducible exact H | (rw [hy547]; exact H) | exact H
  have Ny547 := Aside0.mk hy547
  clear hy547
  obtain ⟨⟨t550, t551, t552⟩, A3, H⟩ := zb H; (try dsimp only at H)
  by_cases c4 : 0 ≤ t550
  · rw [if_pos c4] at H
    have c4b0 := decide_eq_true c4
    clear c4
    by_cases c5 : t550 < (y547.length : Int)
    · rw [if_pos c5] at H
      have c5b0 := decide_eq_true c5
      clear c5
      by_cases c6 : (a1.size : Int) = 0
      · rw [if_pos c6] at H
        have c6b0 := zq1 c6
        have c6b1 := zq2 c6
        clear c6
        simp only [Option.some.injEq, Prod.mk.injEq] at H
        obtain ⟨rfl, rfl, rfl⟩ := H
        go_enter Tryz.func64, Tryz.ntmps64
        go_wp2_with (first | ((with_reducible refine gate_dst (N := 8) rfl ?_); refine Kd.R_lit Kd.string _ 9 ?hg (N := 8) ?hd (xs := ([(⟨#[48]⟩ : ByteArray), (⟨#[49]⟩ : ByteArray), (⟨#[50]⟩ : ByteArray), (⟨#[57]⟩ : ByteArray), (⟨#[44]⟩ : ByteArray), (⟨#[46]⟩ : ByteArray), (⟨#[45]⟩ : ByteArray), (⟨#[32]⟩ : ByteArray), (⟨#[120]⟩ : ByteArray), (⟨#[10]⟩ : ByteArray)] : List ByteArray)) (inner := [.string (⟨#[48]⟩ : ByteArray), .string (⟨#[49]⟩ : ByteArray), .string (⟨#[50]⟩ : ByteArray), .string (⟨#[57]⟩ : ByteArray), .string (⟨#[44]⟩ : ByteArray), .string (⟨#[46]⟩ : ByteArray), .string (⟨#[45]⟩ : ByteArray), .string (⟨#[32]⟩ : ByteArray), .string (⟨#[120]⟩ : ByteArray), .string (⟨#[10]⟩ : ByteArray)]) (ok := fun _ => True) (okp := fun _ => True) ?hr ?hp (fun _ hk => hk) trivial (Below.refl _ _) (Nat.le_refl _) (by simp) ?_; (case hd => rfl); (case hg => rfl); (case hr => first | (go_simp; done) | (go_simp; rfl)); (case hp => exact (Reps.one (show Kd.M Kd.string _ _ _ (⟨#[48]⟩ : ByteArray) [.string (⟨#[48]⟩ : ByteArray)] from rfl) (Reps.one (show Kd.M Kd.string _ _ _ (⟨#[49]⟩ : ByteArray) [.string (⟨#[49]⟩ : ByteArray)] from rfl) (Reps.one (show Kd.M Kd.string _ _ _ (⟨#[50]⟩ : ByteArray) [.string (⟨#[50]⟩ : ByteArray)] from rfl) (Reps.one (show Kd.M Kd.string _ _ _ (⟨#[57]⟩ : ByteArray) [.string (⟨#[57]⟩ : ByteArray)] from rfl) (Reps.one (show Kd.M Kd.string _ _ _ (⟨#[44]⟩ : ByteArray) [.string (⟨#[44]⟩ : ByteArray)] from rfl) (Reps.one (show Kd.M Kd.string _ _ _ (⟨#[46]⟩ : ByteArray) [.string (⟨#[46]⟩ : ByteArray)] from rfl) (Reps.one (show Kd.M Kd.string _ _ _ (⟨#[45]⟩ : ByteArray) [.string (⟨#[45]⟩ : ByteArray)] from rfl) (Reps.one (show Kd.M Kd.string _ _ _ (⟨#[32]⟩ : ByteArray) [.string (⟨#[32]⟩ : ByteArray)] from rfl) (Reps.one (show Kd.M Kd.string _ _ _ (⟨#[120]⟩ : ByteArray) [.string (⟨#[120]⟩ : ByteArray)] from rfl) (Reps.one (show Kd.M Kd.string _ _ _ (⟨#[10]⟩ : ByteArray) [.string (⟨#[10]⟩ : ByteArray)] from rfl) (Reps.none _ _)))))))))))); intro v548 w7 ho8 hb hg_ hnew_; clear hg_ hnew_; (first | rw [← Ny547.out] at ho8 | (simp only [Int.reduceToNat] at ho8; rw [← Ny547.out] at ho8)); refine zA4 (Kd.R_lower ho8 (keep_size (w := w) (g := g) (row := none) (zJ HK.out))) (IsS85.below (zI HI0.out) hb) (KeepBut.trans (zJ HK.out) (KeepBut.of_below hb g none) (.inl rfl)) (below_step (zH1 HB.out (IsS85.ge HI0.out)) hb) ?_; clear HI0 HK HB; intro HO549 HI0 HK HB; clear hb ho8; obtain ⟨Ao9, co9, eo9⟩ := Kd.R_slice HO549.out; subst eo9) | (go_at_call 58; (with_reducible refine (spec_l01Next.calls g s0_0 s0_1 s0_2 (y547.length : Int) t550 t551 t552 w0 _ ?side1 ?side2 A3.out).mono ?_); (case side1 => exact zI HI0.out); (case side2 => exact zH1 HB.out (IsS85.ge HI0.out)); rintro e w10 ⟨rfl, hi, hb, hk⟩; refine zA4 (Kd.R_mono (Kd.R_keep (IsS85.apart (show IsS85 w0 _ g s0_0 s0_1 s0_2 from zI HI0.out) (zR HO549.out) (by decide)) hk (fun _ h => h.2)) (fun _ h => h.1)) (KeepBut.trans (zJ HK.out) hk (.inl rfl)) (hb) (hi) ?_; clear HO549 HK HB HI0; intro HO549 HK HB HI0; (try clear hb); (try clear hb2); (try clear hk); (try clear hi); have p553 : 0 ≤ (t550 : Int) := of_decide_eq_true (by first | (with_reducible assumption) | assumption); have q553 : t550 < (y547.length : Int) := of_decide_eq_true (by first | (with_reducible assumption) | assumption); obtain ⟨ad553, e553, hx553_0⟩ := Kd.at_string (Kd.R_reads' HO549.out).2.2 t550 p553 q553; cases e553; replace p553 := eq_true p553; replace q553 := eq_true q553))
        repeat (go_quiet (first | ((with_reducible refine gate_dst (N := 8) rfl ?_); refine Kd.R_lit Kd.string _ 9 ?hg (N := 8) ?hd (xs := ([(⟨#[48]⟩ : ByteArray), (⟨#[49]⟩ : ByteArray), (⟨#[50]⟩ : ByteArray), (⟨#[57]⟩ : ByteArray), (⟨#[44]⟩ : ByteArray), (⟨#[46]⟩ : ByteArray), (⟨#[45]⟩ : ByteArray), (⟨#[32]⟩ : ByteArray), (⟨#[120]⟩ : ByteArray), (⟨#[10]⟩ : ByteArray)] : List ByteArray)) (inner := [.string (⟨#[48]⟩ : ByteArray), .string (⟨#[49]⟩ : ByteArray), .string (⟨#[50]⟩ : ByteArray), .string (⟨#[57]⟩ : ByteArray), .string (⟨#[44]⟩ : ByteArray), .string (⟨#[46]⟩ : ByteArray), .string (⟨#[45]⟩ : ByteArray), .string (⟨#[32]⟩ : ByteArray), .string (⟨#[120]⟩ : ByteArray), .string (⟨#[10]⟩ : ByteArray)]) (ok := fun _ => True) (okp := fun _ => True) ?hr ?hp (fun _ hk => hk) trivial (Below.refl _ _) (Nat.le_refl _) (by simp) ?_; (case hd => rfl); (case hg => rfl); (case hr => first | (go_simp; done) | (go_simp; rfl)); (case hp => exact (Reps.one (show Kd.M Kd.string _ _ _ (⟨#[48]⟩ : ByteArray) [.string (⟨#[48]⟩ : ByteArray)] from rfl) (Reps.one (show Kd.M Kd.string _ _ _ (⟨#[49]⟩ : ByteArray) [.string (⟨#[49]⟩ : ByteArray)] from rfl) (Reps.one (show Kd.M Kd.string _ _ _ (⟨#[50]⟩ : ByteArray) [.string (⟨#[50]⟩ : ByteArray)] from rfl) (Reps.one (show Kd.M Kd.string _ _ _ (⟨#[57]⟩ : ByteArray) [.string (⟨#[57]⟩ : ByteArray)] from rfl) (Reps.one (show Kd.M Kd.string _ _ _ (⟨#[44]⟩ : ByteArray) [.string (⟨#[44]⟩ : ByteArray)] from rfl) (Reps.one (show Kd.M Kd.string _ _ _ (⟨#[46]⟩ : ByteArray) [.string (⟨#[46]⟩ : ByteArray)] from rfl) (Reps.one (show Kd.M Kd.string _ _ _ (⟨#[45]⟩ : ByteArray) [.string (⟨#[45]⟩ : ByteArray)] from rfl) (Reps.one (show Kd.M Kd.string _ _ _ (⟨#[32]⟩ : ByteArray) [.string (⟨#[32]⟩ : ByteArray)] from rfl) (Reps.one (show Kd.M Kd.string _ _ _ (⟨#[120]⟩ : ByteArray) [.string (⟨#[120]⟩ : ByteArray)] from rfl) (Reps.one (show Kd.M Kd.string _ _ _ (⟨#[10]⟩ : ByteArray) [.string (⟨#[10]⟩ : ByteArray)] from rfl) (Reps.none _ _)))))))))))); intro v548 w7 ho8 hb hg_ hnew_; clear hg_ hnew_; (first | rw [← Ny547.out] at ho8 | (simp only [Int.reduceToNat] at ho8; rw [← Ny547.out] at ho8)); refine zA4 (Kd.R_lower ho8 (keep_size (w := w) (g := g) (row := none) (zJ HK.out))) (IsS85.below (zI HI0.out) hb) (KeepBut.trans (zJ HK.out) (KeepBut.of_below hb g none) (.inl rfl)) (below_step (zH1 HB.out (IsS85.ge HI0.out)) hb) ?_; clear HI0 HK HB; intro HO549 HI0 HK HB; clear hb ho8; obtain ⟨Ao9, co9, eo9⟩ := Kd.R_slice HO549.out; subst eo9) | (go_at_call 58; (with_reducible refine (spec_l01Next.calls g s0_0 s0_1 s0_2 (y547.length : Int) t550 t551 t552 w0 _ ?side1 ?side2 A3.out).mono ?_); (case side1 => exact zI HI0.out); (case side2 => exact zH1 HB.out (IsS85.ge HI0.out)); rintro e w10 ⟨rfl, hi, hb, hk⟩; refine zA4 (Kd.R_mono (Kd.R_keep (IsS85.apart (show IsS85 w0 _ g s0_0 s0_1 s0_2 from zI HI0.out) (zR HO549.out) (by decide)) hk (fun _ h => h.2)) (fun _ h => h.1)) (KeepBut.trans (zJ HK.out) hk (.inl rfl)) (hb) (hi) ?_; clear HO549 HK HB HI0; intro HO549 HK HB HI0; (try clear hb); (try clear hb2); (try clear hk); (try clear hi); have p553 : 0 ≤ (t550 : Int) := of_decide_eq_true (by first | (with_reducible assumption) | assumption); have q553 : t550 < (y547.length : Int) := of_decide_eq_true (by first | (with_reducible assumption) | assumption); obtain ⟨ad553, e553, hx553_0⟩ := Kd.at_string (Kd.R_reads' HO549.out).2.2 t550 p553 q553; cases e553; replace p553 := eq_true p553; replace q553 := eq_true q553)); try go_wp2_with (first | ((with_reducible refine gate_dst (N := 8) rfl ?_); refine Kd.R_lit Kd.string _ 9 ?hg (N := 8) ?hd (xs := ([(⟨#[48]⟩ : ByteArray), (⟨#[49]⟩ : ByteArray), (⟨#[50]⟩ : ByteArray), (⟨#[57]⟩ : ByteArray), (⟨#[44]⟩ : ByteArray), (⟨#[46]⟩ : ByteArray), (⟨#[45]⟩ : ByteArray), (⟨#[32]⟩ : ByteArray), (⟨#[120]⟩ : ByteArray), (⟨#[10]⟩ : ByteArray)] : List ByteArray)) (inner := [.string (⟨#[48]⟩ : ByteArray), .string (⟨#[49]⟩ : ByteArray), .string (⟨#[50]⟩ : ByteArray), .string (⟨#[57]⟩ : ByteArray), .string (⟨#[44]⟩ : ByteArray), .string (⟨#[46]⟩ : ByteArray), .string (⟨#[45]⟩ : ByteArray), .string (⟨#[32]⟩ : ByteArray), .string (⟨#[120]⟩ : ByteArray), .string (⟨#[10]⟩ : ByteArray)]) (ok := fun _ => True) (okp := fun _ => True) ?hr ?hp (fun _ hk => hk) trivial (Below.refl _ _) (Nat.le_refl _) (by simp) ?_; (case hd => rfl); (case hg => rfl); (case hr => first | (go_simp; done) | (go_simp; rfl)); (case hp => exact (Reps.one (show Kd.M Kd.string _ _ _ (⟨#[48]⟩ : ByteArray) [.string (⟨#[48]⟩ : ByteArray)] from rfl) (Reps.one (show Kd.M Kd.string _ _ _ (⟨#[49]⟩ : ByteArray) [.string (⟨#[49]⟩ : ByteArray)] from rfl) (Reps.one (show Kd.M Kd.string _ _ _ (⟨#[50]⟩ : ByteArray) [.string (⟨#[50]⟩ : ByteArray)] from rfl) (Reps.one (show Kd.M Kd.string _ _ _ (⟨#[57]⟩ : ByteArray) [.string (⟨#[57]⟩ : ByteArray)] from rfl) (Reps.one (show Kd.M Kd.string _ _ _ (⟨#[44]⟩ : ByteArray) [.string (⟨#[44]⟩ : ByteArray)] from rfl) (Reps.one (show Kd.M Kd.string _ _ _ (⟨#[46]⟩ : ByteArray) [.string (⟨#[46]⟩ : ByteArray)] from rfl) (Reps.one (show Kd.M Kd.string _ _ _ (⟨#[45]⟩ : ByteArray) [.string (⟨#[45]⟩ : ByteArray)] from rfl) (Reps.one (show Kd.M Kd.string _ _ _ (⟨#[32]⟩ : ByteArray) [.string (⟨#[32]⟩ : ByteArray)] from rfl) (Reps.one (show Kd.M Kd.string _ _ _ (⟨#[120]⟩ : ByteArray) [.string (⟨#[120]⟩ : ByteArray)] from rfl) (Reps.one (show Kd.M Kd.string _ _ _ (⟨#[10]⟩ : ByteArray) [.string (⟨#[10]⟩ : ByteArray)] from rfl) (Reps.none _ _)))))))))))); intro v548 w7 ho8 hb hg_ hnew_; clear hg_ hnew_; (first | rw [← Ny547.out] at ho8 | (simp only [Int.reduceToNat] at ho8; rw [← Ny547.out] at ho8)); refine zA4 (Kd.R_lower ho8 (keep_size (w := w) (g := g) (row := none) (zJ HK.out))) (IsS85.below (zI HI0.out) hb) (KeepBut.trans (zJ HK.out) (KeepBut.of_below hb g none) (.inl rfl)) (below_step (zH1 HB.out (IsS85.ge HI0.out)) hb) ?_; clear HI0 HK HB; intro HO549 HI0 HK HB; clear hb ho8; obtain ⟨Ao9, co9, eo9⟩ := Kd.R_slice HO549.out; subst eo9) | (go_at_call 58; (with_reducible refine (spec_l01Next.calls g s0_0 s0_1 s0_2 (y547.length : Int) t550 t551 t552 w0 _ ?side1 ?side2 A3.out).mono ?_); (case side1 => exact zI HI0.out); (case side2 => exact zH1 HB.out (IsS85.ge HI0.out)); rintro e w10 ⟨rfl, hi, hb, hk⟩; refine zA4 (Kd.R_mono (Kd.R_keep (IsS85.apart (show IsS85 w0 _ g s0_0 s0_1 s0_2 from zI HI0.out) (zR HO549.out) (by decide)) hk (fun _ h => h.2)) (fun _ h => h.1)) (KeepBut.trans (zJ HK.out) hk (.inl rfl)) (hb) (hi) ?_; clear HO549 HK HB HI0; intro HO549 HK HB HI0; (try clear hb); (try clear hb2); (try clear hk); (try clear hi); have p553 : 0 ≤ (t550 : Int) := of_decide_eq_true (by first | (with_reducible assumption) | assumption); have q553 : t550 < (y547.length : Int) := of_decide_eq_true (by first | (with_reducible assumption) | assumption); obtain ⟨ad553, e553, hx553_0⟩ := Kd.at_string (Kd.R_reads' HO549.out).2.2 t550 p553 q553; cases e553; replace p553 := eq_true p553; replace q553 := eq_true q553)))
        go_ret
        exact ⟨zE, zI HI0.out, zH1 HB.out (IsS85.ge HI0.out), zJ HK.out⟩
      · rw [if_neg c6] at H
        have c6b0 := zq3 c6
        have c6b1 := zq4 c6
        obtain ⟨⟨t554, t555, t556⟩, A11, H⟩ := zb H; (try dsimp only at H)
        obtain ⟨⟨t557, t558, t559⟩, A12, H⟩ := zb H; (try dsimp only at H)
        by_cases c13 : t557 = 0
        · rw [if_pos c13] at H
          have c13b0 := zq1 c13
          have c13b1 := zq2 c13
          clear c13
          by_cases c14 : 0 ≤ t554
          · rw [if_pos c14] at H
            have c14b0 := eq_true c14
            have c14b1 := decide_eq_true c14
            clear c14
            by_cases c15 : t554 ≤ (a1.size : Int)
            · rw [if_pos c15] at H
              have c15b0 := eq_true c15
              have c15b1 := decide_eq_true c15
              clear c15
              by_cases c16 : (a1.extract 0 (t554 : Int).toNat).size + (rdOf ByteArray.empty y547 t550).size ≤ 9223372036854775807
              · rw [if_pos c16] at H
                have c16b0 := eq_true c16
                have c16b1 := decide_eq_true c16
                try have c16b2 : (9223372036854775807 < (a1.extract 0 (t554 : Int).toNat).size + (rdOf ByteArray.empty y547 t550).size) = False := eq_false (Nat.not_lt.2 c16)
                obtain ⟨ji17, hji17⟩ := zj (wrap64 (t554 + 1))
                (first | rw [hji17] at H | simp only [hji17] at H)
                (try rw [hji17] at A3)
                (try rw [hji17] at A11)
                (try rw [hji17] at A12)
                have hji17w : (IntKind.i64.wrap (t554 + 1)) = ji17 := (i64_w _).trans hji17
                by_cases c18 : 0 ≤ (ji17)
                · rw [if_pos c18] at H
                  have c18b0 := eq_true c18
                  have c18b1 := decide_eq_true c18
                  clear c18
                  by_cases c19 : (ji17) ≤ (a1.size : Int)
                  · rw [if_pos c19] at H
                    have c19b0 := eq_true c19
                    have c19b1 := decide_eq_true c19
                    clear c19
                    by_cases c20 : ((a1.extract 0 (t554 : Int).toNat) ++ (rdOf ByteArray.empty y547 t550)).size + (a1.extract ((ji17) : Int).toNat a1.size).size ≤ 9223372036854775807
                    · rw [if_pos c20] at H
                      have c20b0 := eq_true c20
                      have c20b1 := decide_eq_true c20
                      try have c20b2 : (9223372036854775807 < ((a1.extract 0 (t554 : Int).toNat) ++ (rdOf ByteArray.empty y547 t550)).size + (a1.extract ((ji17) : Int).toNat a1.size).size) = False := eq_false (Nat.not_lt.2 c20)
                      simp only [Option.some.injEq, Prod.mk.injEq] at H
                      obtain ⟨rfl, rfl, rfl⟩ := H
                      go_enter Tryz.func64, Tryz.ntmps64
                      go_wp2_with (first | ((with_reducible refine gate_dst (N := 8) rfl ?_); refine Kd.R_lit Kd.string _ 9 ?hg (N := 8) ?hd (xs := ([(⟨#[48]⟩ : ByteArray), (⟨#[49]⟩ : ByteArray), (⟨#[50]⟩ : ByteArray), (⟨#[57]⟩ : ByteArray), (⟨#[44]⟩ : ByteArray), (⟨#[46]⟩ : ByteArray), (⟨#[45]⟩ : ByteArray), (⟨#[32]⟩ : ByteArray), (⟨#[120]⟩ : ByteArray), (⟨#[10]⟩ : ByteArray)] : List ByteArray)) (inner := [.string (⟨#[48]⟩ : ByteArray), .string (⟨#[49]⟩ : ByteArray), .string (⟨#[50]⟩ : ByteArray), .string (⟨#[57]⟩ : ByteArray), .string (⟨#[44]⟩ : ByteArray), .string (⟨#[46]⟩ : ByteArray), .string (⟨#[45]⟩ : ByteArray), .string (⟨#[32]⟩ : ByteArray), .string (⟨#[120]⟩ : ByteArray), .string (⟨#[10]⟩ : ByteArray)]) (ok := fun _ => True) (okp := fun _ => True) ?hr ?hp (fun _ hk => hk) trivial (Below.refl _ _) (Nat.le_refl _) (by simp) ?_; (case hd => rfl); (case hg => rfl); (case hr => first | (go_simp; done) | (go_simp; rfl)); (case hp => exact (Reps.one (show Kd.M Kd.string _ _ _ (⟨#[48]⟩ : ByteArray) [.string (⟨#[48]⟩ : ByteArray)] from rfl) (Reps.one (show Kd.M Kd.string _ _ _ (⟨#[49]⟩ : ByteArray) [.string (⟨#[49]⟩ : ByteArray)] from rfl) (Reps.one (show Kd.M Kd.string _ _ _ (⟨#[50]⟩ : ByteArray) [.string (⟨#[50]⟩ : ByteArray)] from rfl) (Reps.one (show Kd.M Kd.string _ _ _ (⟨#[57]⟩ : ByteArray) [.string (⟨#[57]⟩ : ByteArray)] from rfl) (Reps.one (show Kd.M Kd.string _ _ _ (⟨#[44]⟩ : ByteArray) [.string (⟨#[44]⟩ : ByteArray)] from rfl) (Reps.one (show Kd.M Kd.string _ _ _ (⟨#[46]⟩ : ByteArray) [.string (⟨#[46]⟩ : ByteArray)] from rfl) (Reps.one (show Kd.M Kd.string _ _ _ (⟨#[45]⟩ : ByteArray) [.string (⟨#[45]⟩ : ByteArray)] from rfl) (Reps.one (show Kd.M Kd.string _ _ _ (⟨#[32]⟩ : ByteArray) [.string (⟨#[32]⟩ : ByteArray)] from rfl) (Reps.one (show Kd.M Kd.string _ _ _ (⟨#[120]⟩ : ByteArray) [.string (⟨#[120]⟩ : ByteArray)] from rfl) (Reps.one (show Kd.M Kd.string _ _ _ (⟨#[10]⟩ : ByteArray) [.string (⟨#[10]⟩ : ByteArray)] from rfl) (Reps.none _ _)))))))))))); intro v548 w21 ho22 hb hg_ hnew_; clear hg_ hnew_; (first | rw [← Ny547.out] at ho22 | (simp only [Int.reduceToNat] at ho22; rw [← Ny547.out] at ho22)); refine zA4 (Kd.R_lower ho22 (keep_size (w := w) (g := g) (row := none) (zJ HK.out))) (IsS85.below (zI HI0.out) hb) (KeepBut.trans (zJ HK.out) (KeepBut.of_below hb g none) (.inl rfl)) (below_step (zH1 HB.out (IsS85.ge HI0.out)) hb) ?_; clear HI0 HK HB; intro HO549 HI0 HK HB; clear hb ho22; obtain ⟨Ao23, co23, eo23⟩ := Kd.R_slice HO549.out; subst eo23) | (go_at_call 58; (with_reducible refine (spec_l01Next.calls g s0_0 s0_1 s0_2 (y547.length : Int) t550 t551 t552 w0 _ ?side1 ?side2 A3.out).mono ?_); (case side1 => exact zI HI0.out); (case side2 => exact zH1 HB.out (IsS85.ge HI0.out)); rintro e w24 ⟨rfl, hi, hb, hk⟩; refine zA4 (Kd.R_mono (Kd.R_keep (IsS85.apart (show IsS85 w0 _ g s0_0 s0_1 s0_2 from zI HI0.out) (zR HO549.out) (by decide)) hk (fun _ h => h.2)) (fun _ h => h.1)) (KeepBut.trans (zJ HK.out) hk (.inl rfl)) (hb) (hi) ?_; clear HO549 HK HB HI0; intro HO549 HK HB HI0; (try clear hb); (try clear hb2); (try clear hk); (try clear hi); have p553 : 0 ≤ (t550 : Int) := of_decide_eq_true (by first | (with_reducible assumption) | assumption); have q553 : t550 < (y547.length : Int) := of_decide_eq_true (by first | (with_reducible assumption) | assumption); obtain ⟨ad553, e553, hx553_0⟩ := Kd.at_string (Kd.R_reads' HO549.out).2.2 t550 p553 q553; cases e553; replace p553 := eq_true p553; replace q553 := eq_true q553) | (go_at_call 58; (with_reducible refine (spec_l01Next.calls g s0_0 t551 t552 (a1.size : Int) t554 t555 t556 w0 _ ?side1 ?side2 A11.out).mono ?_); (case side1 => exact zI HI0.out); (case side2 => exact zH1 HB.out (IsS85.ge HI0.out)); rintro e w25 ⟨rfl, hi, hb, hk⟩; refine zA4 (Kd.R_mono (Kd.R_keep (IsS85.apart (show IsS85 w0 _ g s0_0 t551 t552 from zI HI0.out) (zR HO549.out) (by decide)) hk (fun _ h => h.2)) (fun _ h => h.1)) (KeepBut.trans (zJ HK.out) hk (.inl rfl)) (hb) (hi) ?_; clear HO549 HK HB HI0; intro HO549 HK HB HI0; (try clear hb); (try clear hb2); (try clear hk); (try clear hi)) | (go_at_call 58; (with_reducible refine (spec_l01Next.calls g s0_0 t555 t556 3 t557 t558 t559 w0 _ ?side1 ?side2 A12.out).mono ?_); (case side1 => exact zI HI0.out); (case side2 => exact zH1 HB.out (IsS85.ge HI0.out)); rintro e w26 ⟨rfl, hi, hb, hk⟩; refine zA4 (Kd.R_mono (Kd.R_keep (IsS85.apart (show IsS85 w0 _ g s0_0 t555 t556 from zI HI0.out) (zR HO549.out) (by decide)) hk (fun _ h => h.2)) (fun _ h => h.1)) (KeepBut.trans (zJ HK.out) hk (.inl rfl)) (hb) (hi) ?_; clear HO549 HK HB HI0; intro HO549 HK HB HI0; (try clear hb); (try clear hb2); (try clear hk); (try clear hi)))
                      repeat (go_quiet (first | ((with_reducible refine gate_dst (N := 8) rfl ?_); refine Kd.R_lit Kd.string _ 9 ?hg (N := 8) ?hd (xs := ([(⟨#[48]⟩ : ByteArray), (⟨#[49]⟩ : ByteArray), (⟨#[50]⟩ : ByteArray), (⟨#[57]⟩ : ByteArray), (⟨#[44]⟩ : ByteArray), (⟨#[46]⟩ : ByteArray), (⟨#[45]⟩ : ByteArray), (⟨#[32]⟩ : ByteArray), (⟨#[120]⟩ : ByteArray), (⟨#[10]⟩ : ByteArray)] : List ByteArray)) (inner := [.string (⟨#[48]⟩ : ByteArray), .string (⟨#[49]⟩ : ByteArray), .string (⟨#[50]⟩ : ByteArray), .string (⟨#[57]⟩ : ByteArray), .string (⟨#[44]⟩ : ByteArray), .string (⟨#[46]⟩ : ByteArray), .string (⟨#[45]⟩ : ByteArray), .string (⟨#[32]⟩ : ByteArray), .string (⟨#[120]⟩ : ByteArray), .string (⟨#[10]⟩ : ByteArray)]) (ok := fun _ => True) (okp := fun _ => True) ?hr ?hp (fun _ hk => hk) trivial (Below.refl _ _) (Nat.le_refl _) (by simp) ?_; (case hd => rfl); (case hg => rfl); (case hr => first | (go_simp; done) | (go_simp; rfl)); (case hp => exact (Reps.one (show Kd.M Kd.string _ _ _ (⟨#[48]⟩ : ByteArray) [.string (⟨#[48]⟩ : ByteArray)] from rfl) (Reps.one (show Kd.M Kd.string _ _ _ (⟨#[49]⟩ : ByteArray) [.string (⟨#[49]⟩ : ByteArray)] from rfl) (Reps.one (show Kd.M Kd.string _ _ _ (⟨#[50]⟩ : ByteArray) [.string (⟨#[50]⟩ : ByteArray)] from rfl) (Reps.one (show Kd.M Kd.string _ _ _ (⟨#[57]⟩ : ByteArray) [.string (⟨#[57]⟩ : ByteArray)] from rfl) (Reps.one (show Kd.M Kd.string _ _ _ (⟨#[44]⟩ : ByteArray) [.string (⟨#[44]⟩ : ByteArray)] from rfl) (Reps.one (show Kd.M Kd.string _ _ _ (⟨#[46]⟩ : ByteArray) [.string (⟨#[46]⟩ : ByteArray)] from rfl) (Reps.one (show Kd.M Kd.string _ _ _ (⟨#[45]⟩ : ByteArray) [.string (⟨#[45]⟩ : ByteArray)] from rfl) (Reps.one (show Kd.M Kd.string _ _ _ (⟨#[32]⟩ : ByteArray) [.string (⟨#[32]⟩ : ByteArray)] from rfl) (Reps.one (show Kd.M Kd.string _ _ _ (⟨#[120]⟩ : ByteArray) [.string (⟨#[120]⟩ : ByteArray)] from rfl) (Reps.one (show Kd.M Kd.string _ _ _ (⟨#[10]⟩ : ByteArray) [.string (⟨#[10]⟩ : ByteArray)] from rfl) (Reps.none _ _)))))))))))); intro v548 w21 ho22 hb hg_ hnew_; clear hg_ hnew_; (first | rw [← Ny547.out] at ho22 | (simp only [Int.reduceToNat] at ho22; rw [← Ny547.out] at ho22)); refine zA4 (Kd.R_lower ho22 (keep_size (w := w) (g := g) (row := none) (zJ HK.out))) (IsS85.below (zI HI0.out) hb) (KeepBut.trans (zJ HK.out) (KeepBut.of_below hb g none) (.inl rfl)) (below_step (zH1 HB.out (IsS85.ge HI0.out)) hb) ?_; clear HI0 HK HB; intro HO549 HI0 HK HB; clear hb ho22; obtain ⟨Ao23, co23, eo23⟩ := Kd.R_slice HO549.out; subst eo23) | (go_at_call 58; (with_reducible refine (spec_l01Next.calls g s0_0 s0_1 s0_2 (y547.length : Int) t550 t551 t552 w0 _ ?side1 ?side2 A3.out).mono ?_); (case side1 => exact zI HI0.out); (case side2 => exact zH1 HB.out (IsS85.ge HI0.out)); rintro e w24 ⟨rfl, hi, hb, hk⟩; refine zA4 (Kd.R_mono (Kd.R_keep (IsS85.apart (show IsS85 w0 _ g s0_0 s0_1 s0_2 from zI HI0.out) (zR HO549.out) (by decide)) hk (fun _ h => h.2)) (fun _ h => h.1)) (KeepBut.trans (zJ HK.out) hk (.inl rfl)) (hb) (hi) ?_; clear HO549 HK HB HI0; intro HO549 HK HB HI0; (try clear hb); (try clear hb2); (try clear hk); (try clear hi); have p553 : 0 ≤ (t550 : Int) := of_decide_eq_true (by first | (with_reducible assumption) | assumption); have q553 : t550 < (y547.length : Int) := of_decide_eq_true (by first | (with_reducible assumption) | assumption); obtain ⟨ad553, e553, hx553_0⟩ := Kd.at_string (Kd.R_reads' HO549.out).2.2 t550 p553 q553; cases e553; replace p553 := eq_true p553; replace q553 := eq_true q553) | (go_at_call 58; (with_reducible refine (spec_l01Next.calls g s0_0 t551 t552 (a1.size : Int) t554 t555 t556 w0 _ ?side1 ?side2 A11.out).mono ?_); (case side1 => exact zI HI0.out); (case side2 => exact zH1 HB.out (IsS85.ge HI0.out)); rintro e w25 ⟨rfl, hi, hb, hk⟩; refine zA4 (Kd.R_mono (Kd.R_keep (IsS85.apart (show IsS85 w0 _ g s0_0 t551 t552 from zI HI0.out) (zR HO549.out) (by decide)) hk (fun _ h => h.2)) (fun _ h => h.1)) (KeepBut.trans (zJ HK.out) hk (.inl rfl)) (hb) (hi) ?_; clear HO549 HK HB HI0; intro HO549 HK HB HI0; (try clear hb); (try clear hb2); (try clear hk); (try clear hi)) | (go_at_call 58; (with_reducible refine (spec_l01Next.calls g s0_0 t555 t556 3 t557 t558 t559 w0 _ ?side1 ?side2 A12.out).mono ?_); (case side1 => exact zI HI0.out); (case side2 => exact zH1 HB.out (IsS85.ge HI0.out)); rintro e w26 ⟨rfl, hi, hb, hk⟩; refine zA4 (Kd.R_mono (Kd.R_keep (IsS85.apart (show IsS85 w0 _ g s0_0 t555 t556 from zI HI0.out) (zR HO549.out) (by decide)) hk (fun _ h => h.2)) (fun _ h => h.1)) (KeepBut.trans (zJ HK.out) hk (.inl rfl)) (hb) (hi) ?_; clear HO549 HK HB HI0; intro HO549 HK HB HI0; (try clear hb); (try clear hb2); (try clear hk); (try clear hi))); try go_wp2_with (first | ((with_reducible refine gate_dst (N := 8) rfl ?_); refine Kd.R_lit Kd.string _ 9 ?hg (N := 8) ?hd (xs := ([(⟨#[48]⟩ : ByteArray), (⟨#[49]⟩ : ByteArray), (⟨#[50]⟩ : ByteArray), (⟨#[57]⟩ : ByteArray), (⟨#[44]⟩ : ByteArray), (⟨#[46]⟩ : ByteArray), (⟨#[45]⟩ : ByteArray), (⟨#[32]⟩ : ByteArray), (⟨#[120]⟩ : ByteArray), (⟨#[10]⟩ : ByteArray)] : List ByteArray)) (inner := [.string (⟨#[48]⟩ : ByteArray), .string (⟨#[49]⟩ : ByteArray), .string (⟨#[50]⟩ : ByteArray), .string (⟨#[57]⟩ : ByteArray), .string (⟨#[44]⟩ : ByteArray), .string (⟨#[46]⟩ : ByteArray), .string (⟨#[45]⟩ : ByteArray), .string (⟨#[32]⟩ : ByteArray), .string (⟨#[120]⟩ : ByteArray), .string (⟨#[10]⟩ : ByteArray)]) (ok := fun _ => True) (okp := fun _ => True) ?hr ?hp (fun _ hk => hk) trivial (Below.refl _ _) (Nat.le_refl _) (by simp) ?_; (case hd => rfl); (case hg => rfl); (case hr => first | (go_simp; done) | (go_simp; rfl)); (case hp => exact (Reps.one (show Kd.M Kd.string _ _ _ (⟨#[48]⟩ : ByteArray) [.string (⟨#[48]⟩ : ByteArray)] from rfl) (Reps.one (show Kd.M Kd.string _ _ _ (⟨#[49]⟩ : ByteArray) [.string (⟨#[49]⟩ : ByteArray)] from rfl) (Reps.one (show Kd.M Kd.string _ _ _ (⟨#[50]⟩ : ByteArray) [.string (⟨#[50]⟩ : ByteArray)] from rfl) (Reps.one (show Kd.M Kd.string _ _ _ (⟨#[57]⟩ : ByteArray) [.string (⟨#[57]⟩ : ByteArray)] from rfl) (Reps.one (show Kd.M Kd.string _ _ _ (⟨#[44]⟩ : ByteArray) [.string (⟨#[44]⟩ : ByteArray)] from rfl) (Reps.one (show Kd.M Kd.string _ _ _ (⟨#[46]⟩ : ByteArray) [.string (⟨#[46]⟩ : ByteArray)] from rfl) (Reps.one (show Kd.M Kd.string _ _ _ (⟨#[45]⟩ : ByteArray) [.string (⟨#[45]⟩ : ByteArray)] from rfl) (Reps.one (show Kd.M Kd.string _ _ _ (⟨#[32]⟩ : ByteArray) [.string (⟨#[32]⟩ : ByteArray)] from rfl) (Reps.one (show Kd.M Kd.string _ _ _ (⟨#[120]⟩ : ByteArray) [.string (⟨#[120]⟩ : ByteArray)] from rfl) (Reps.one (show Kd.M Kd.string _ _ _ (⟨#[10]⟩ : ByteArray) [.string (⟨#[10]⟩ : ByteArray)] from rfl) (Reps.none _ _)))))))))))); intro v548 w21 ho22 hb hg_ hnew_; clear hg_ hnew_; (first | rw [← Ny547.out] at ho22 | (simp only [Int.reduceToNat] at ho22; rw [← Ny547.out] at ho22)); refine zA4 (Kd.R_lower ho22 (keep_size (w := w) (g := g) (row := none) (zJ HK.out))) (IsS85.below (zI HI0.out) hb) (KeepBut.trans (zJ HK.out) (KeepBut.of_below hb g none) (.inl rfl)) (below_step (zH1 HB.out (IsS85.ge HI0.out)) hb) ?_; clear HI0 HK HB; intro HO549 HI0 HK HB; clear hb ho22; obtain ⟨Ao23, co23, eo23⟩ := Kd.R_slice HO549.out; subst eo23) | (go_at_call 58; (with_reducible refine (spec_l01Next.calls g s0_0 s0_1 s0_2 (y547.length : Int) t550 t551 t552 w0 _ ?side1 ?side2 A3.out).mono ?_); (case side1 => exact zI HI0.out); (case side2 => exact zH1 HB.out (IsS85.ge HI0.out)); rintro e w24 ⟨rfl, hi, hb, hk⟩; refine zA4 (Kd.R_mono (Kd.R_keep (IsS85.apart (show IsS85 w0 _ g s0_0 s0_1 s0_2 from zI HI0.out) (zR HO549.out) (by decide)) hk (fun _ h => h.2)) (fun _ h => h.1)) (KeepBut.trans (zJ HK.out) hk (.inl rfl)) (hb) (hi) ?_; clear HO549 HK HB HI0; intro HO549 HK HB HI0; (try clear hb); (try clear hb2); (try clear hk); (try clear hi); have p553 : 0 ≤ (t550 : Int) := of_decide_eq_true (by first | (with_reducible assumption) | assumption); have q553 : t550 < (y547.length : Int) := of_decide_eq_true (by first | (with_reducible assumption) | assumption); obtain ⟨ad553, e553, hx553_0⟩ := Kd.at_string (Kd.R_reads' HO549.out).2.2 t550 p553 q553; cases e553; replace p553 := eq_true p553; replace q553 := eq_true q553) | (go_at_call 58; (with_reducible refine (spec_l01Next.calls g s0_0 t551 t552 (a1.size : Int) t554 t555 t556 w0 _ ?side1 ?side2 A11.out).mono ?_); (case side1 => exact zI HI0.out); (case side2 => exact zH1 HB.out (IsS85.ge HI0.out)); rintro e w25 ⟨rfl, hi, hb, hk⟩; refine zA4 (Kd.R_mono (Kd.R_keep (IsS85.apart (show IsS85 w0 _ g s0_0 t551 t552 from zI HI0.out) (zR HO549.out) (by decide)) hk (fun _ h => h.2)) (fun _ h => h.1)) (KeepBut.trans (zJ HK.out) hk (.inl rfl)) (hb) (hi) ?_; clear HO549 HK HB HI0; intro HO549 HK HB HI0; (try clear hb); (try clear hb2); (try clear hk); (try clear hi)) | (go_at_call 58; (with_reducible refine (spec_l01Next.calls g s0_0 t555 t556 3 t557 t558 t559 w0 _ ?side1 ?side2 A12.out).mono ?_); (case side1 => exact zI HI0.out); (case side2 => exact zH1 HB.out (IsS85.ge HI0.out)); rintro e w26 ⟨rfl, hi, hb, hk⟩; refine zA4 (Kd.R_mono (Kd.R_keep (IsS85.apart (show IsS85 w0 _ g s0_0 t555 t556 from zI HI0.out) (zR HO549.out) (by decide)) hk (fun _ h => h.2)) (fun _ h => h.1)) (KeepBut.trans (zJ HK.out) hk (.inl rfl)) (hb) (hi) ?_; clear HO549 HK HB HI0; intro HO549 HK HB HI0; (try clear hb); (try clear hb2); (try clear hk); (try clear hi))))
                      go_ret
                      exact ⟨by first | rfl | (simp [errW_none, errW_some] <;> rfl) | (simp only [← hji17]; first | rfl | (simp [errW_none, errW_some] <;> rfl)) | (simp [*, errW_none, errW_some] <;> rfl), zI HI0.out, zH1 HB.out (IsS85.ge HI0.out), zJ HK.out⟩
                    · rw [if_neg c20] at H
                      exact absurd H (by simp)
                  · rw [if_neg c19] at H
                    exact absurd H (by simp)
                · rw [if_neg c18] at H
                  exact absurd H (by simp)
              · rw [if_neg c16] at H
                exact absurd H (by simp)
            · rw [if_neg c15] at H
              exact absurd H (by simp)
          · rw [if_neg c14] at H
            exact absurd H (by simp)
        · rw [if_neg c13] at H
          have c13b0 := zq3 c13
          have c13b1 := zq4 c13
          by_cases c27 : t557 = 1
          · rw [if_pos c27] at H
            have c27b0 := zq1 c27
            have c27b1 := zq2 c27
            clear c27
            by_cases c28 : 0 ≤ t554
            · rw [if_pos c28] at H
              have c28b0 := eq_true c28
              have c28b1 := decide_eq_true c28
              clear c28
              by_cases c29 : t554 ≤ (a1.size : Int)
              · rw [if_pos c29] at H
                have c29b0 := eq_true c29
                have c29b1 := decide_eq_true c29
                clear c29
                obtain ⟨ji30, hji30⟩ := zj (wrap64 (t554 + 1))
                (first | rw [hji30] at H | simp only [hji30] at H)
                (try rw [hji30] at A3)
                (try rw [hji30] at A11)
                (try rw [hji30] at A12)
                have hji30w : (IntKind.i64.wrap (t554 + 1)) = ji30 := (i64_w _).trans hji30
                by_cases c31 : 0 ≤ (ji30)
                · rw [if_pos c31] at H
                  have c31b0 := eq_true c31
                  have c31b1 := decide_eq_true c31
                  clear c31
                  by_cases c32 : (ji30) ≤ (a1.size : Int)
                  · rw [if_pos c32] at H
                    have c32b0 := eq_true c32
                    have c32b1 := decide_eq_true c32
                    clear c32
                    by_cases c33 : (a1.extract 0 (t554 : Int).toNat).size + (a1.extract ((ji30) : Int).toNat a1.size).size ≤ 9223372036854775807
                    · rw [if_pos c33] at H
                      have c33b0 := eq_true c33
                      have c33b1 := decide_eq_true c33
                      try have c33b2 : (9223372036854775807 < (a1.extract 0 (t554 : Int).toNat).size + (a1.extract ((ji30) : Int).toNat a1.size).size) = False := eq_false (Nat.not_lt.2 c33)
                      simp only [Option.some.injEq, Prod.mk.injEq] at H
                      obtain ⟨rfl, rfl, rfl⟩ := H
                      go_enter Tryz.func64, Tryz.ntmps64
                      go_wp2_with (first | ((with_reducible refine gate_dst (N := 8) rfl ?_); refine Kd.R_lit Kd.string _ 9 ?hg (N := 8) ?hd (xs := ([(⟨#[48]⟩ : ByteArray), (⟨#[49]⟩ : ByteArray), (⟨#[50]⟩ : ByteArray), (⟨#[57]⟩ : ByteArray), (⟨#[44]⟩ : ByteArray), (⟨#[46]⟩ : ByteArray), (⟨#[45]⟩ : ByteArray), (⟨#[32]⟩ : ByteArray), (⟨#[120]⟩ : ByteArray), (⟨#[10]⟩ : ByteArray)] : List ByteArray)) (inner := [.string (⟨#[48]⟩ : ByteArray), .string (⟨#[49]⟩ : ByteArray), .string (⟨#[50]⟩ : ByteArray), .string (⟨#[57]⟩ : ByteArray), .string (⟨#[44]⟩ : ByteArray), .string (⟨#[46]⟩ : ByteArray), .string (⟨#[45]⟩ : ByteArray), .string (⟨#[32]⟩ : ByteArray), .string (⟨#[120]⟩ : ByteArray), .string (⟨#[10]⟩ : ByteArray)]) (ok := fun _ => True) (okp := fun _ => True) ?hr ?hp (fun _ hk => hk) trivial (Below.refl _ _) (Nat.le_refl _) (by simp) ?_; (case hd => rfl); (case hg => rfl); (case hr => first | (go_simp; done) | (go_simp; rfl)); (case hp => exact (Reps.one (show Kd.M Kd.string _ _ _ (⟨#[48]⟩ : ByteArray) [.string (⟨#[48]⟩ : ByteArray)] from rfl) (Reps.one (show Kd.M Kd.string _ _ _ (⟨#[49]⟩ : ByteArray) [.string (⟨#[49]⟩ : ByteArray)] from rfl) (Reps.one (show Kd.M Kd.string _ _ _ (⟨#[50]⟩ : ByteArray) [.string (⟨#[50]⟩ : ByteArray)] from rfl) (Reps.one (show Kd.M Kd.string _ _ _ (⟨#[57]⟩ : ByteArray) [.string (⟨#[57]⟩ : ByteArray)] from rfl) (Reps.one (show Kd.M Kd.string _ _ _ (⟨#[44]⟩ : ByteArray) [.string (⟨#[44]⟩ : ByteArray)] from rfl) (Reps.one (show Kd.M Kd.string _ _ _ (⟨#[46]⟩ : ByteArray) [.string (⟨#[46]⟩ : ByteArray)] from rfl) (Reps.one (show Kd.M Kd.string _ _ _ (⟨#[45]⟩ : ByteArray) [.string (⟨#[45]⟩ : ByteArray)] from rfl) (Reps.one (show Kd.M Kd.string _ _ _ (⟨#[32]⟩ : ByteArray) [.string (⟨#[32]⟩ : ByteArray)] from rfl) (Reps.one (show Kd.M Kd.string _ _ _ (⟨#[120]⟩ : ByteArray) [.string (⟨#[120]⟩ : ByteArray)] from rfl) (Reps.one (show Kd.M Kd.string _ _ _ (⟨#[10]⟩ : ByteArray) [.string (⟨#[10]⟩ : ByteArray)] from rfl) (Reps.none _ _)))))))))))); intro v548 w34 ho35 hb hg_ hnew_; clear hg_ hnew_; (first | rw [← Ny547.out] at ho35 | (simp only [Int.reduceToNat] at ho35; rw [← Ny547.out] at ho35)); refine zA4 (Kd.R_lower ho35 (keep_size (w := w) (g := g) (row := none) (zJ HK.out))) (IsS85.below (zI HI0.out) hb) (KeepBut.trans (zJ HK.out) (KeepBut.of_below hb g none) (.inl rfl)) (below_step (zH1 HB.out (IsS85.ge HI0.out)) hb) ?_; clear HI0 HK HB; intro HO549 HI0 HK HB; clear hb ho35; obtain ⟨Ao36, co36, eo36⟩ := Kd.R_slice HO549.out; subst eo36) | (go_at_call 58; (with_reducible refine (spec_l01Next.calls g s0_0 s0_1 s0_2 (y547.length : Int) t550 t551 t552 w0 _ ?side1 ?side2 A3.out).mono ?_); (case side1 => exact zI HI0.out); (case side2 => exact zH1 HB.out (IsS85.ge HI0.out)); rintro e w37 ⟨rfl, hi, hb, hk⟩; refine zA4 (Kd.R_mono (Kd.R_keep (IsS85.apart (show IsS85 w0 _ g s0_0 s0_1 s0_2 from zI HI0.out) (zR HO549.out) (by decide)) hk (fun _ h => h.2)) (fun _ h => h.1)) (KeepBut.trans (zJ HK.out) hk (.inl rfl)) (hb) (hi) ?_; clear HO549 HK HB HI0; intro HO549 HK HB HI0; (try clear hb); (try clear hb2); (try clear hk); (try clear hi); have p553 : 0 ≤ (t550 : Int) := of_decide_eq_true (by first | (with_reducible assumption) | assumption); have q553 : t550 < (y547.length : Int) := of_decide_eq_true (by first | (with_reducible assumption) | assumption); obtain ⟨ad553, e553, hx553_0⟩ := Kd.at_string (Kd.R_reads' HO549.out).2.2 t550 p553 q553; cases e553; replace p553 := eq_true p553; replace q553 := eq_true q553) | (go_at_call 58; (with_reducible refine (spec_l01Next.calls g s0_0 t551 t552 (a1.size : Int) t554 t555 t556 w0 _ ?side1 ?side2 A11.out).mono ?_); (case side1 => exact zI HI0.out); (case side2 => exact zH1 HB.out (IsS85.ge HI0.out)); rintro e w38 ⟨rfl, hi, hb, hk⟩; refine zA4 (Kd.R_mono (Kd.R_keep (IsS85.apart (show IsS85 w0 _ g s0_0 t551 t552 from zI HI0.out) (zR HO549.out) (by decide)) hk (fun _ h => h.2)) (fun _ h => h.1)) (KeepBut.trans (zJ HK.out) hk (.inl rfl)) (hb) (hi) ?_; clear HO549 HK HB HI0; intro HO549 HK HB HI0; (try clear hb); (try clear hb2); (try clear hk); (try clear hi)) | (go_at_call 58; (with_reducible refine (spec_l01Next.calls g s0_0 t555 t556 3 t557 t558 t559 w0 _ ?side1 ?side2 A12.out).mono ?_); (case side1 => exact zI HI0.out); (case side2 => exact zH1 HB.out (IsS85.ge HI0.out)); rintro e w39 ⟨rfl, hi, hb, hk⟩; refine zA4 (Kd.R_mono (Kd.R_keep (IsS85.apart (show IsS85 w0 _ g s0_0 t555 t556 from zI HI0.out) (zR HO549.out) (by decide)) hk (fun _ h => h.2)) (fun _ h => h.1)) (KeepBut.trans (zJ HK.out) hk (.inl rfl)) (hb) (hi) ?_; clear HO549 HK HB HI0; intro HO549 HK HB HI0; (try clear hb); (try clear hb2); (try clear hk); (try clear hi)))
                      repeat (go_quiet (first | ((with_reducible refine gate_dst (N := 8) rfl ?_); refine Kd.R_lit Kd.string _ 9 ?hg (N := 8) ?hd (xs := ([(⟨#[48]⟩ : ByteArray), (⟨#[49]⟩ : ByteArray), (⟨#[50]⟩ : ByteArray), (⟨#[57]⟩ : ByteArray), (⟨#[44]⟩ : ByteArray), (⟨#[46]⟩ : ByteArray), (⟨#[45]⟩ : ByteArray), (⟨#[32]⟩ : ByteArray), (⟨#[120]⟩ : ByteArray), (⟨#[10]⟩ : ByteArray)] : List ByteArray)) (inner := [.string (⟨#[48]⟩ : ByteArray), .string (⟨#[49]⟩ : ByteArray), .string (⟨#[50]⟩ : ByteArray), .string (⟨#[57]⟩ : ByteArray), .string (⟨#[44]⟩ : ByteArray), .string (⟨#[46]⟩ : ByteArray), .string (⟨#[45]⟩ : ByteArray), .string (⟨#[32]⟩ : ByteArray), .string (⟨#[120]⟩ : ByteArray), .string (⟨#[10]⟩ : ByteArray)]) (ok := fun _ => True) (okp := fun _ => True) ?hr ?hp (fun _ hk => hk) trivial (Below.refl _ _) (Nat.le_refl _) (by simp) ?_; (case hd => rfl); (case hg => rfl); (case hr => first | (go_simp; done) | (go_simp; rfl)); (case hp => exact (Reps.one (show Kd.M Kd.string _ _ _ (⟨#[48]⟩ : ByteArray) [.string (⟨#[48]⟩ : ByteArray)] from rfl) (Reps.one (show Kd.M Kd.string _ _ _ (⟨#[49]⟩ : ByteArray) [.string (⟨#[49]⟩ : ByteArray)] from rfl) (Reps.one (show Kd.M Kd.string _ _ _ (⟨#[50]⟩ : ByteArray) [.string (⟨#[50]⟩ : ByteArray)] from rfl) (Reps.one (show Kd.M Kd.string _ _ _ (⟨#[57]⟩ : ByteArray) [.string (⟨#[57]⟩ : ByteArray)] from rfl) (Reps.one (show Kd.M Kd.string _ _ _ (⟨#[44]⟩ : ByteArray) [.string (⟨#[44]⟩ : ByteArray)] from rfl) (Reps.one (show Kd.M Kd.string _ _ _ (⟨#[46]⟩ : ByteArray) [.string (⟨#[46]⟩ : ByteArray)] from rfl) (Reps.one (show Kd.M Kd.string _ _ _ (⟨#[45]⟩ : ByteArray) [.string (⟨#[45]⟩ : ByteArray)] from rfl) (Reps.one (show Kd.M Kd.string _ _ _ (⟨#[32]⟩ : ByteArray) [.string (⟨#[32]⟩ : ByteArray)] from rfl) (Reps.one (show Kd.M Kd.string _ _ _ (⟨#[120]⟩ : ByteArray) [.string (⟨#[120]⟩ : ByteArray)] from rfl) (Reps.one (show Kd.M Kd.string _ _ _ (⟨#[10]⟩ : ByteArray) [.string (⟨#[10]⟩ : ByteArray)] from rfl) (Reps.none _ _)))))))))))); intro v548 w34 ho35 hb hg_ hnew_; clear hg_ hnew_; (first | rw [← Ny547.out] at ho35 | (simp only [Int.reduceToNat] at ho35; rw [← Ny547.out] at ho35)); refine zA4 (Kd.R_lower ho35 (keep_size (w := w) (g := g) (row := none) (zJ HK.out))) (IsS85.below (zI HI0.out) hb) (KeepBut.trans (zJ HK.out) (KeepBut.of_below hb g none) (.inl rfl)) (below_step (zH1 HB.out (IsS85.ge HI0.out)) hb) ?_; clear HI0 HK HB; intro HO549 HI0 HK HB; clear hb ho35; obtain ⟨Ao36, co36, eo36⟩ := Kd.R_slice HO549.out; subst eo36) | (go_at_call 58; (with_reducible refine (spec_l01Next.calls g s0_0 s0_1 s0_2 (y547.length : Int) t550 t551 t552 w0 _ ?side1 ?side2 A3.out).mono ?_); (case side1 => exact zI HI0.out); (case side2 => exact zH1 HB.out (IsS85.ge HI0.out)); rintro e w37 ⟨rfl, hi, hb, hk⟩; refine zA4 (Kd.R_mono (Kd.R_keep (IsS85.apart (show IsS85 w0 _ g s0_0 s0_1 s0_2 from zI HI0.out) (zR HO549.out) (by decide)) hk (fun _ h => h.2)) (fun _ h => h.1)) (KeepBut.trans (zJ HK.out) hk (.inl rfl)) (hb) (hi) ?_; clear HO549 HK HB HI0; intro HO549 HK HB HI0; (try clear hb); (try clear hb2); (try clear hk); (try clear hi); have p553 : 0 ≤ (t550 : Int) := of_decide_eq_true (by first | (with_reducible assumption) | assumption); have q553 : t550 < (y547.length : Int) := of_decide_eq_true (by first | (with_reducible assumption) | assumption); obtain ⟨ad553, e553, hx553_0⟩ := Kd.at_string (Kd.R_reads' HO549.out).2.2 t550 p553 q553; cases e553; replace p553 := eq_true p553; replace q553 := eq_true q553) | (go_at_call 58; (with_reducible refine (spec_l01Next.calls g s0_0 t551 t552 (a1.size : Int) t554 t555 t556 w0 _ ?side1 ?side2 A11.out).mono ?_); (case side1 => exact zI HI0.out); (case side2 => exact zH1 HB.out (IsS85.ge HI0.out)); rintro e w38 ⟨rfl, hi, hb, hk⟩; refine zA4 (Kd.R_mono (Kd.R_keep (IsS85.apart (show IsS85 w0 _ g s0_0 t551 t552 from zI HI0.out) (zR HO549.out) (by decide)) hk (fun _ h => h.2)) (fun _ h => h.1)) (KeepBut.trans (zJ HK.out) hk (.inl rfl)) (hb) (hi) ?_; clear HO549 HK HB HI0; intro HO549 HK HB HI0; (try clear hb); (try clear hb2); (try clear hk); (try clear hi)) | (go_at_call 58; (with_reducible refine (spec_l01Next.calls g s0_0 t555 t556 3 t557 t558 t559 w0 _ ?side1 ?side2 A12.out).mono ?_); (case side1 => exact zI HI0.out); (case side2 => exact zH1 HB.out (IsS85.ge HI0.out)); rintro e w39 ⟨rfl, hi, hb, hk⟩; refine zA4 (Kd.R_mono (Kd.R_keep (IsS85.apart (show IsS85 w0 _ g s0_0 t555 t556 from zI HI0.out) (zR HO549.out) (by decide)) hk (fun _ h => h.2)) (fun _ h => h.1)) (KeepBut.trans (zJ HK.out) hk (.inl rfl)) (hb) (hi) ?_; clear HO549 HK HB HI0; intro HO549 HK HB HI0; (try clear hb); (try clear hb2); (try clear hk); (try clear hi))); try go_wp2_with (first | ((with_reducible refine gate_dst (N := 8) rfl ?_); refine Kd.R_lit Kd.string _ 9 ?hg (N := 8) ?hd (xs := ([(⟨#[48]⟩ : ByteArray), (⟨#[49]⟩ : ByteArray), (⟨#[50]⟩ : ByteArray), (⟨#[57]⟩ : ByteArray), (⟨#[44]⟩ : ByteArray), (⟨#[46]⟩ : ByteArray), (⟨#[45]⟩ : ByteArray), (⟨#[32]⟩ : ByteArray), (⟨#[120]⟩ : ByteArray), (⟨#[10]⟩ : ByteArray)] : List ByteArray)) (inner := [.string (⟨#[48]⟩ : ByteArray), .string (⟨#[49]⟩ : ByteArray), .string (⟨#[50]⟩ : ByteArray), .string (⟨#[57]⟩ : ByteArray), .string (⟨#[44]⟩ : ByteArray), .string (⟨#[46]⟩ : ByteArray), .string (⟨#[45]⟩ : ByteArray), .string (⟨#[32]⟩ : ByteArray), .string (⟨#[120]⟩ : ByteArray), .string (⟨#[10]⟩ : ByteArray)]) (ok := fun _ => True) (okp := fun _ => True) ?hr ?hp (fun _ hk => hk) trivial (Below.refl _ _) (Nat.le_refl _) (by simp) ?_; (case hd => rfl); (case hg => rfl); (case hr => first | (go_simp; done) | (go_simp; rfl)); (case hp => exact (Reps.one (show Kd.M Kd.string _ _ _ (⟨#[48]⟩ : ByteArray) [.string (⟨#[48]⟩ : ByteArray)] from rfl) (Reps.one (show Kd.M Kd.string _ _ _ (⟨#[49]⟩ : ByteArray) [.string (⟨#[49]⟩ : ByteArray)] from rfl) (Reps.one (show Kd.M Kd.string _ _ _ (⟨#[50]⟩ : ByteArray) [.string (⟨#[50]⟩ : ByteArray)] from rfl) (Reps.one (show Kd.M Kd.string _ _ _ (⟨#[57]⟩ : ByteArray) [.string (⟨#[57]⟩ : ByteArray)] from rfl) (Reps.one (show Kd.M Kd.string _ _ _ (⟨#[44]⟩ : ByteArray) [.string (⟨#[44]⟩ : ByteArray)] from rfl) (Reps.one (show Kd.M Kd.string _ _ _ (⟨#[46]⟩ : ByteArray) [.string (⟨#[46]⟩ : ByteArray)] from rfl) (Reps.one (show Kd.M Kd.string _ _ _ (⟨#[45]⟩ : ByteArray) [.string (⟨#[45]⟩ : ByteArray)] from rfl) (Reps.one (show Kd.M Kd.string _ _ _ (⟨#[32]⟩ : ByteArray) [.string (⟨#[32]⟩ : ByteArray)] from rfl) (Reps.one (show Kd.M Kd.string _ _ _ (⟨#[120]⟩ : ByteArray) [.string (⟨#[120]⟩ : ByteArray)] from rfl) (Reps.one (show Kd.M Kd.string _ _ _ (⟨#[10]⟩ : ByteArray) [.string (⟨#[10]⟩ : ByteArray)] from rfl) (Reps.none _ _)))))))))))); intro v548 w34 ho35 hb hg_ hnew_; clear hg_ hnew_; (first | rw [← Ny547.out] at ho35 | (simp only [Int.reduceToNat] at ho35; rw [← Ny547.out] at ho35)); refine zA4 (Kd.R_lower ho35 (keep_size (w := w) (g := g) (row := none) (zJ HK.out))) (IsS85.below (zI HI0.out) hb) (KeepBut.trans (zJ HK.out) (KeepBut.of_below hb g none) (.inl rfl)) (below_step (zH1 HB.out (IsS85.ge HI0.out)) hb) ?_; clear HI0 HK HB; intro HO549 HI0 HK HB; clear hb ho35; obtain ⟨Ao36, co36, eo36⟩ := Kd.R_slice HO549.out; subst eo36) | (go_at_call 58; (with_reducible refine (spec_l01Next.calls g s0_0 s0_1 s0_2 (y547.length : Int) t550 t551 t552 w0 _ ?side1 ?side2 A3.out).mono ?_); (case side1 => exact zI HI0.out); (case side2 => exact zH1 HB.out (IsS85.ge HI0.out)); rintro e w37 ⟨rfl, hi, hb, hk⟩; refine zA4 (Kd.R_mono (Kd.R_keep (IsS85.apart (show IsS85 w0 _ g s0_0 s0_1 s0_2 from zI HI0.out) (zR HO549.out) (by decide)) hk (fun _ h => h.2)) (fun _ h => h.1)) (KeepBut.trans (zJ HK.out) hk (.inl rfl)) (hb) (hi) ?_; clear HO549 HK HB HI0; intro HO549 HK HB HI0; (try clear hb); (try clear hb2); (try clear hk); (try clear hi); have p553 : 0 ≤ (t550 : Int) := of_decide_eq_true (by first | (with_reducible assumption) | assumption); have q553 : t550 < (y547.length : Int) := of_decide_eq_true (by first | (with_reducible assumption) | assumption); obtain ⟨ad553, e553, hx553_0⟩ := Kd.at_string (Kd.R_reads' HO549.out).2.2 t550 p553 q553; cases e553; replace p553 := eq_true p553; replace q553 := eq_true q553) | (go_at_call 58; (with_reducible refine (spec_l01Next.calls g s0_0 t551 t552 (a1.size : Int) t554 t555 t556 w0 _ ?side1 ?side2 A11.out).mono ?_); (case side1 => exact zI HI0.out); (case side2 => exact zH1 HB.out (IsS85.ge HI0.out)); rintro e w38 ⟨rfl, hi, hb, hk⟩; refine zA4 (Kd.R_mono (Kd.R_keep (IsS85.apart (show IsS85 w0 _ g s0_0 t551 t552 from zI HI0.out) (zR HO549.out) (by decide)) hk (fun _ h => h.2)) (fun _ h => h.1)) (KeepBut.trans (zJ HK.out) hk (.inl rfl)) (hb) (hi) ?_; clear HO549 HK HB HI0; intro HO549 HK HB HI0; (try clear hb); (try clear hb2); (try clear hk); (try clear hi)) | (go_at_call 58; (with_reducible refine (spec_l01Next.calls g s0_0 t555 t556 3 t557 t558 t559 w0 _ ?side1 ?side2 A12.out).mono ?_); (case side1 => exact zI HI0.out); (case side2 => exact zH1 HB.out (IsS85.ge HI0.out)); rintro e w39 ⟨rfl, hi, hb, hk⟩; refine zA4 (Kd.R_mono (Kd.R_keep (IsS85.apart (show IsS85 w0 _ g s0_0 t555 t556 from zI HI0.out) (zR HO549.out) (by decide)) hk (fun _ h => h.2)) (fun _ h => h.1)) (KeepBut.trans (zJ HK.out) hk (.inl rfl)) (hb) (hi) ?_; clear HO549 HK HB HI0; intro HO549 HK HB HI0; (try clear hb); (try clear hb2); (try clear hk); (try clear hi))))
                      go_ret
                      exact ⟨by first | rfl | (simp [errW_none, errW_some] <;> rfl) | (simp only [← hji30]; first | rfl | (simp [errW_none, errW_some] <;> rfl)) | (simp [*, errW_none, errW_some] <;> rfl), zI HI0.out, zH1 HB.out (IsS85.ge HI0.out), zJ HK.out⟩
                    · rw [if_neg c33] at H
                      exact absurd H (by simp)
                  · rw [if_neg c32] at H
                    exact absurd H (by simp)
                · rw [if_neg c31] at H
                  exact absurd H (by simp)
              · rw [if_neg c29] at H
                exact absurd H (by simp)
            · rw [if_neg c28] at H
              exact absurd H (by simp)
          · rw [if_neg c27] at H
            have c27b0 := zq3 c27
            have c27b1 := zq4 c27
            by_cases c40 : 0 ≤ t554
            · rw [if_pos c40] at H
              have c40b0 := eq_true c40
              have c40b1 := decide_eq_true c40
              clear c40
              by_cases c41 : t554 ≤ (a1.size : Int)
              · rw [if_pos c41] at H
                have c41b0 := eq_true c41
                have c41b1 := decide_eq_true c41
                clear c41
                by_cases c42 : (a1.extract 0 (t554 : Int).toNat).size + (rdOf ByteArray.empty y547 t550).size ≤ 9223372036854775807
                · rw [if_pos c42] at H
                  have c42b0 := eq_true c42
                  have c42b1 := decide_eq_true c42
                  try have c42b2 : (9223372036854775807 < (a1.extract 0 (t554 : Int).toNat).size + (rdOf ByteArray.empty y547 t550).size) = False := eq_false (Nat.not_lt.2 c42)
                  have c43b0 := eq_true (of_decide_eq_true (by first | (with_reducible assumption) | assumption) : 0 ≤ t554)
                  have c44b0 := eq_true (of_decide_eq_true (by first | (with_reducible assumption) | assumption) : t554 ≤ (a1.size : Int))
                  by_cases c45 : ((a1.extract 0 (t554 : Int).toNat) ++ (rdOf ByteArray.empty y547 t550)).size + (a1.extract (t554 : Int).toNat a1.size).size ≤ 9223372036854775807
                  · rw [if_pos c45] at H
                    have c45b0 := eq_true c45
                    have c45b1 := decide_eq_true c45
                    try have c45b2 : (9223372036854775807 < ((a1.extract 0 (t554 : Int).toNat) ++ (rdOf ByteArray.empty y547 t550)).size + (a1.extract (t554 : Int).toNat a1.size).size) = False := eq_false (Nat.not_lt.2 c45)
                    simp only [Option.some.injEq, Prod.mk.injEq] at H
                    obtain ⟨rfl, rfl, rfl⟩ := H
                    go_enter Tryz.func64, Tryz.ntmps64
                    go_wp2_with (first | ((with_reducible refine gate_dst (N := 8) rfl ?_); refine Kd.R_lit Kd.string _ 9 ?hg (N := 8) ?hd (xs := ([(⟨#[48]⟩ : ByteArray), (⟨#[49]⟩ : ByteArray), (⟨#[50]⟩ : ByteArray), (⟨#[57]⟩ : ByteArray), (⟨#[44]⟩ : ByteArray), (⟨#[46]⟩ : ByteArray), (⟨#[45]⟩ : ByteArray), (⟨#[32]⟩ : ByteArray), (⟨#[120]⟩ : ByteArray), (⟨#[10]⟩ : ByteArray)] : List ByteArray)) (inner := [.string (⟨#[48]⟩ : ByteArray), .string (⟨#[49]⟩ : ByteArray), .string (⟨#[50]⟩ : ByteArray), .string (⟨#[57]⟩ : ByteArray), .string (⟨#[44]⟩ : ByteArray), .string (⟨#[46]⟩ : ByteArray), .string (⟨#[45]⟩ : ByteArray), .string (⟨#[32]⟩ : ByteArray), .string (⟨#[120]⟩ : ByteArray), .string (⟨#[10]⟩ : ByteArray)]) (ok := fun _ => True) (okp := fun _ => True) ?hr ?hp (fun _ hk => hk) trivial (Below.refl _ _) (Nat.le_refl _) (by simp) ?_; (case hd => rfl); (case hg => rfl); (case hr => first | (go_simp; done) | (go_simp; rfl)); (case hp => exact (Reps.one (show Kd.M Kd.string _ _ _ (⟨#[48]⟩ : ByteArray) [.string (⟨#[48]⟩ : ByteArray)] from rfl) (Reps.one (show Kd.M Kd.string _ _ _ (⟨#[49]⟩ : ByteArray) [.string (⟨#[49]⟩ : ByteArray)] from rfl) (Reps.one (show Kd.M Kd.string _ _ _ (⟨#[50]⟩ : ByteArray) [.string (⟨#[50]⟩ : ByteArray)] from rfl) (Reps.one (show Kd.M Kd.string _ _ _ (⟨#[57]⟩ : ByteArray) [.string (⟨#[57]⟩ : ByteArray)] from rfl) (Reps.one (show Kd.M Kd.string _ _ _ (⟨#[44]⟩ : ByteArray) [.string (⟨#[44]⟩ : ByteArray)] from rfl) (Reps.one (show Kd.M Kd.string _ _ _ (⟨#[46]⟩ : ByteArray) [.string (⟨#[46]⟩ : ByteArray)] from rfl) (Reps.one (show Kd.M Kd.string _ _ _ (⟨#[45]⟩ : ByteArray) [.string (⟨#[45]⟩ : ByteArray)] from rfl) (Reps.one (show Kd.M Kd.string _ _ _ (⟨#[32]⟩ : ByteArray) [.string (⟨#[32]⟩ : ByteArray)] from rfl) (Reps.one (show Kd.M Kd.string _ _ _ (⟨#[120]⟩ : ByteArray) [.string (⟨#[120]⟩ : ByteArray)] from rfl) (Reps.one (show Kd.M Kd.string _ _ _ (⟨#[10]⟩ : ByteArray) [.string (⟨#[10]⟩ : ByteArray)] from rfl) (Reps.none _ _)))))))))))); intro v548 w46 ho47 hb hg_ hnew_; clear hg_ hnew_; (first | rw [← Ny547.out] at ho47 | (simp only [Int.reduceToNat] at ho47; rw [← Ny547.out] at ho47)); refine zA4 (Kd.R_lower ho47 (keep_size (w := w) (g := g) (row := none) (zJ HK.out))) (IsS85.below (zI HI0.out) hb) (KeepBut.trans (zJ HK.out) (KeepBut.of_below hb g none) (.inl rfl)) (below_step (zH1 HB.out (IsS85.ge HI0.out)) hb) ?_; clear HI0 HK HB; intro HO549 HI0 HK HB; clear hb ho47; obtain ⟨Ao48, co48, eo48⟩ := Kd.R_slice HO549.out; subst eo48) | (go_at_call 58; (with_reducible refine (spec_l01Next.calls g s0_0 s0_1 s0_2 (y547.length : Int) t550 t551 t552 w0 _ ?side1 ?side2 A3.out).mono ?_); (case side1 => exact zI HI0.out); (case side2 => exact zH1 HB.out (IsS85.ge HI0.out)); rintro e w49 ⟨rfl, hi, hb, hk⟩; refine zA4 (Kd.R_mono (Kd.R_keep (IsS85.apart (show IsS85 w0 _ g s0_0 s0_1 s0_2 from zI HI0.out) (zR HO549.out) (by decide)) hk (fun _ h => h.2)) (fun _ h => h.1)) (KeepBut.trans (zJ HK.out) hk (.inl rfl)) (hb) (hi) ?_; clear HO549 HK HB HI0; intro HO549 HK HB HI0; (try clear hb); (try clear hb2); (try clear hk); (try clear hi); have p553 : 0 ≤ (t550 : Int) := of_decide_eq_true (by first | (with_reducible assumption) | assumption); have q553 : t550 < (y547.length : Int) := of_decide_eq_true (by first | (with_reducible assumption) | assumption); obtain ⟨ad553, e553, hx553_0⟩ := Kd.at_string (Kd.R_reads' HO549.out).2.2 t550 p553 q553; cases e553; replace p553 := eq_true p553; replace q553 := eq_true q553) | (go_at_call 58; (with_reducible refine (spec_l01Next.calls g s0_0 t551 t552 (a1.size : Int) t554 t555 t556 w0 _ ?side1 ?side2 A11.out).mono ?_); (case side1 => exact zI HI0.out); (case side2 => exact zH1 HB.out (IsS85.ge HI0.out)); rintro e w50 ⟨rfl, hi, hb, hk⟩; refine zA4 (Kd.R_mono (Kd.R_keep (IsS85.apart (show IsS85 w0 _ g s0_0 t551 t552 from zI HI0.out) (zR HO549.out) (by decide)) hk (fun _ h => h.2)) (fun _ h => h.1)) (KeepBut.trans (zJ HK.out) hk (.inl rfl)) (hb) (hi) ?_; clear HO549 HK HB HI0; intro HO549 HK HB HI0; (try clear hb); (try clear hb2); (try clear hk); (try clear hi)) | (go_at_call 58; (with_reducible refine (spec_l01Next.calls g s0_0 t555 t556 3 t557 t558 t559 w0 _ ?side1 ?side2 A12.out).mono ?_); (case side1 => exact zI HI0.out); (case side2 => exact zH1 HB.out (IsS85.ge HI0.out)); rintro e w51 ⟨rfl, hi, hb, hk⟩; refine zA4 (Kd.R_mono (Kd.R_keep (IsS85.apart (show IsS85 w0 _ g s0_0 t555 t556 from zI HI0.out) (zR HO549.out) (by decide)) hk (fun _ h => h.2)) (fun _ h => h.1)) (KeepBut.trans (zJ HK.out) hk (.inl rfl)) (hb) (hi) ?_; clear HO549 HK HB HI0; intro HO549 HK HB HI0; (try clear hb); (try clear hb2); (try clear hk); (try clear hi)))
                    repeat (go_quiet (first | ((with_reducible refine gate_dst (N := 8) rfl ?_); refine Kd.R_lit Kd.string _ 9 ?hg (N := 8) ?hd (xs := ([(⟨#[48]⟩ : ByteArray), (⟨#[49]⟩ : ByteArray), (⟨#[50]⟩ : ByteArray), (⟨#[57]⟩ : ByteArray), (⟨#[44]⟩ : ByteArray), (⟨#[46]⟩ : ByteArray), (⟨#[45]⟩ : ByteArray), (⟨#[32]⟩ : ByteArray), (⟨#[120]⟩ : ByteArray), (⟨#[10]⟩ : ByteArray)] : List ByteArray)) (inner := [.string (⟨#[48]⟩ : ByteArray), .string (⟨#[49]⟩ : ByteArray), .string (⟨#[50]⟩ : ByteArray), .string (⟨#[57]⟩ : ByteArray), .string (⟨#[44]⟩ : ByteArray), .string (⟨#[46]⟩ : ByteArray), .string (⟨#[45]⟩ : ByteArray), .string (⟨#[32]⟩ : ByteArray), .string (⟨#[120]⟩ : ByteArray), .string (⟨#[10]⟩ : ByteArray)]) (ok := fun _ => True) (okp := fun _ => True) ?hr ?hp (fun _ hk => hk) trivial (Below.refl _ _) (Nat.le_refl _) (by simp) ?_; (case hd => rfl); (case hg => rfl); (case hr => first | (go_simp; done) | (go_simp; rfl)); (case hp => exact (Reps.one (show Kd.M Kd.string _ _ _ (⟨#[48]⟩ : ByteArray) [.string (⟨#[48]⟩ : ByteArray)] from rfl) (Reps.one (show Kd.M Kd.string _ _ _ (⟨#[49]⟩ : ByteArray) [.string (⟨#[49]⟩ : ByteArray)] from rfl) (Reps.one (show Kd.M Kd.string _ _ _ (⟨#[50]⟩ : ByteArray) [.string (⟨#[50]⟩ : ByteArray)] from rfl) (Reps.one (show Kd.M Kd.string _ _ _ (⟨#[57]⟩ : ByteArray) [.string (⟨#[57]⟩ : ByteArray)] from rfl) (Reps.one (show Kd.M Kd.string _ _ _ (⟨#[44]⟩ : ByteArray) [.string (⟨#[44]⟩ : ByteArray)] from rfl) (Reps.one (show Kd.M Kd.string _ _ _ (⟨#[46]⟩ : ByteArray) [.string (⟨#[46]⟩ : ByteArray)] from rfl) (Reps.one (show Kd.M Kd.string _ _ _ (⟨#[45]⟩ : ByteArray) [.string (⟨#[45]⟩ : ByteArray)] from rfl) (Reps.one (show Kd.M Kd.string _ _ _ (⟨#[32]⟩ : ByteArray) [.string (⟨#[32]⟩ : ByteArray)] from rfl) (Reps.one (show Kd.M Kd.string _ _ _ (⟨#[120]⟩ : ByteArray) [.string (⟨#[120]⟩ : ByteArray)] from rfl) (Reps.one (show Kd.M Kd.string _ _ _ (⟨#[10]⟩ : ByteArray) [.string (⟨#[10]⟩ : ByteArray)] from rfl) (Reps.none _ _)))))))))))); intro v548 w46 ho47 hb hg_ hnew_; clear hg_ hnew_; (first | rw [← Ny547.out] at ho47 | (simp only [Int.reduceToNat] at ho47; rw [← Ny547.out] at ho47)); refine zA4 (Kd.R_lower ho47 (keep_size (w := w) (g := g) (row := none) (zJ HK.out))) (IsS85.below (zI HI0.out) hb) (KeepBut.trans (zJ HK.out) (KeepBut.of_below hb g none) (.inl rfl)) (below_step (zH1 HB.out (IsS85.ge HI0.out)) hb) ?_; clear HI0 HK HB; intro HO549 HI0 HK HB; clear hb ho47; obtain ⟨Ao48, co48, eo48⟩ := Kd.R_slice HO549.out; subst eo48) | (go_at_call 58; (with_reducible refine (spec_l01Next.calls g s0_0 s0_1 s0_2 (y547.length : Int) t550 t551 t552 w0 _ ?side1 ?side2 A3.out).mono ?_); (case side1 => exact zI HI0.out); (case side2 => exact zH1 HB.out (IsS85.ge HI0.out)); rintro e w49 ⟨rfl, hi, hb, hk⟩; refine zA4 (Kd.R_mono (Kd.R_keep (IsS85.apart (show IsS85 w0 _ g s0_0 s0_1 s0_2 from zI HI0.out) (zR HO549.out) (by decide)) hk (fun _ h => h.2)) (fun _ h => h.1)) (KeepBut.trans (zJ HK.out) hk (.inl rfl)) (hb) (hi) ?_; clear HO549 HK HB HI0; intro HO549 HK HB HI0; (try clear hb); (try clear hb2); (try clear hk); (try clear hi); have p553 : 0 ≤ (t550 : Int) := of_decide_eq_true (by first | (with_reducible assumption) | assumption); have q553 : t550 < (y547.length : Int) := of_decide_eq_true (by first | (with_reducible assumption) | assumption); obtain ⟨ad553, e553, hx553_0⟩ := Kd.at_string (Kd.R_reads' HO549.out).2.2 t550 p553 q553; cases e553; replace p553 := eq_true p553; replace q553 := eq_true q553) | (go_at_call 58; (with_reducible refine (spec_l01Next.calls g s0_0 t551 t552 (a1.size : Int) t554 t555 t556 w0 _ ?side1 ?side2 A11.out).mono ?_); (case side1 => exact zI HI0.out); (case side2 => exact zH1 HB.out (IsS85.ge HI0.out)); rintro e w50 ⟨rfl, hi, hb, hk⟩; refine zA4 (Kd.R_mono (Kd.R_keep (IsS85.apart (show IsS85 w0 _ g s0_0 t551 t552 from zI HI0.out) (zR HO549.out) (by decide)) hk (fun _ h => h.2)) (fun _ h => h.1)) (KeepBut.trans (zJ HK.out) hk (.inl rfl)) (hb) (hi) ?_; clear HO549 HK HB HI0; intro HO549 HK HB HI0; (try clear hb); (try clear hb2); (try clear hk); (try clear hi)) | (go_at_call 58; (with_reducible refine (spec_l01Next.calls g s0_0 t555 t556 3 t557 t558 t559 w0 _ ?side1 ?side2 A12.out).mono ?_); (case side1 => exact zI HI0.out); (case side2 => exact zH1 HB.out (IsS85.ge HI0.out)); rintro e w51 ⟨rfl, hi, hb, hk⟩; refine zA4 (Kd.R_mono (Kd.R_keep (IsS85.apart (show IsS85 w0 _ g s0_0 t555 t556 from zI HI0.out) (zR HO549.out) (by decide)) hk (fun _ h => h.2)) (fun _ h => h.1)) (KeepBut.trans (zJ HK.out) hk (.inl rfl)) (hb) (hi) ?_; clear HO549 HK HB HI0; intro HO549 HK HB HI0; (try clear hb); (try clear hb2); (try clear hk); (try clear hi))); try go_wp2_with (first | ((with_reducible refine gate_dst (N := 8) rfl ?_); refine Kd.R_lit Kd.string _ 9 ?hg (N := 8) ?hd (xs := ([(⟨#[48]⟩ : ByteArray), (⟨#[49]⟩ : ByteArray), (⟨#[50]⟩ : ByteArray), (⟨#[57]⟩ : ByteArray), (⟨#[44]⟩ : ByteArray), (⟨#[46]⟩ : ByteArray), (⟨#[45]⟩ : ByteArray), (⟨#[32]⟩ : ByteArray), (⟨#[120]⟩ : ByteArray), (⟨#[10]⟩ : ByteArray)] : List ByteArray)) (inner := [.string (⟨#[48]⟩ : ByteArray), .string (⟨#[49]⟩ : ByteArray), .string (⟨#[50]⟩ : ByteArray), .string (⟨#[57]⟩ : ByteArray), .string (⟨#[44]⟩ : ByteArray), .string (⟨#[46]⟩ : ByteArray), .string (⟨#[45]⟩ : ByteArray), .string (⟨#[32]⟩ : ByteArray), .string (⟨#[120]⟩ : ByteArray), .string (⟨#[10]⟩ : ByteArray)]) (ok := fun _ => True) (okp := fun _ => True) ?hr ?hp (fun _ hk => hk) trivial (Below.refl _ _) (Nat.le_refl _) (by simp) ?_; (case hd => rfl); (case hg => rfl); (case hr => first | (go_simp; done) | (go_simp; rfl)); (case hp => exact (Reps.one (show Kd.M Kd.string _ _ _ (⟨#[48]⟩ : ByteArray) [.string (⟨#[48]⟩ : ByteArray)] from rfl) (Reps.one (show Kd.M Kd.string _ _ _ (⟨#[49]⟩ : ByteArray) [.string (⟨#[49]⟩ : ByteArray)] from rfl) (Reps.one (show Kd.M Kd.string _ _ _ (⟨#[50]⟩ : ByteArray) [.string (⟨#[50]⟩ : ByteArray)] from rfl) (Reps.one (show Kd.M Kd.string _ _ _ (⟨#[57]⟩ : ByteArray) [.string (⟨#[57]⟩ : ByteArray)] from rfl) (Reps.one (show Kd.M Kd.string _ _ _ (⟨#[44]⟩ : ByteArray) [.string (⟨#[44]⟩ : ByteArray)] from rfl) (Reps.one (show Kd.M Kd.string _ _ _ (⟨#[46]⟩ : ByteArray) [.string (⟨#[46]⟩ : ByteArray)] from rfl) (Reps.one (show Kd.M Kd.string _ _ _ (⟨#[45]⟩ : ByteArray) [.string (⟨#[45]⟩ : ByteArray)] from rfl) (Reps.one (show Kd.M Kd.string _ _ _ (⟨#[32]⟩ : ByteArray) [.string (⟨#[32]⟩ : ByteArray)] from rfl) (Reps.one (show Kd.M Kd.string _ _ _ (⟨#[120]⟩ : ByteArray) [.string (⟨#[120]⟩ : ByteArray)] from rfl) (Reps.one (show Kd.M Kd.string _ _ _ (⟨#[10]⟩ : ByteArray) [.string (⟨#[10]⟩ : ByteArray)] from rfl) (Reps.none _ _)))))))))))); intro v548 w46 ho47 hb hg_ hnew_; clear hg_ hnew_; (first | rw [← Ny547.out] at ho47 | (simp only [Int.reduceToNat] at ho47; rw [← Ny547.out] at ho47)); refine zA4 (Kd.R_lower ho47 (keep_size (w := w) (g := g) (row := none) (zJ HK.out))) (IsS85.below (zI HI0.out) hb) (KeepBut.trans (zJ HK.out) (KeepBut.of_below hb g none) (.inl rfl)) (below_step (zH1 HB.out (IsS85.ge HI0.out)) hb) ?_; clear HI0 HK HB; intro HO549 HI0 HK HB; clear hb ho47; obtain ⟨Ao48, co48, eo48⟩ := Kd.R_slice HO549.out; subst eo48) | (go_at_call 58; (with_reducible refine (spec_l01Next.calls g s0_0 s0_1 s0_2 (y547.length : Int) t550 t551 t552 w0 _ ?side1 ?side2 A3.out).mono ?_); (case side1 => exact zI HI0.out); (case side2 => exact zH1 HB.out (IsS85.ge HI0.out)); rintro e w49 ⟨rfl, hi, hb, hk⟩; refine zA4 (Kd.R_mono (Kd.R_keep (IsS85.apart (show IsS85 w0 _ g s0_0 s0_1 s0_2 from zI HI0.out) (zR HO549.out) (by decide)) hk (fun _ h => h.2)) (fun _ h => h.1)) (KeepBut.trans (zJ HK.out) hk (.inl rfl)) (hb) (hi) ?_; clear HO549 HK HB HI0; intro HO549 HK HB HI0; (try clear hb); (try clear hb2); (try clear hk); (try clear hi); have p553 : 0 ≤ (t550 : Int) := of_decide_eq_true (by first | (with_reducible assumption) | assumption); have q553 : t550 < (y547.length : Int) := of_decide_eq_true (by first | (with_reducible assumption) | assumption); obtain ⟨ad553, e553, hx553_0⟩ := Kd.at_string (Kd.R_reads' HO549.out).2.2 t550 p553 q553; cases e553; replace p553 := eq_true p553; replace q553 := eq_true q553) | (go_at_call 58; (with_reducible refine (spec_l01Next.calls g s0_0 t551 t552 (a1.size : Int) t554 t555 t556 w0 _ ?side1 ?side2 A11.out).mono ?_); (case side1 => exact zI HI0.out); (case side2 => exact zH1 HB.out (IsS85.ge HI0.out)); rintro e w50 ⟨rfl, hi, hb, hk⟩; refine zA4 (Kd.R_mono (Kd.R_keep (IsS85.apart (show IsS85 w0 _ g s0_0 t551 t552 from zI HI0.out) (zR HO549.out) (by decide)) hk (fun _ h => h.2)) (fun _ h => h.1)) (KeepBut.trans (zJ HK.out) hk (.inl rfl)) (hb) (hi) ?_; clear HO549 HK HB HI0; intro HO549 HK HB HI0; (try clear hb); (try clear hb2); (try clear hk); (try clear hi)) | (go_at_call 58; (with_reducible refine (spec_l01Next.calls g s0_0 t555 t556 3 t557 t558 t559 w0 _ ?side1 ?side2 A12.out).mono ?_); (case side1 => exact zI HI0.out); (case side2 => exact zH1 HB.out (IsS85.ge HI0.out)); rintro e w51 ⟨rfl, hi, hb, hk⟩; refine zA4 (Kd.R_mono (Kd.R_keep (IsS85.apart (show IsS85 w0 _ g s0_0 t555 t556 from zI HI0.out) (zR HO549.out) (by decide)) hk (fun _ h => h.2)) (fun _ h => h.1)) (KeepBut.trans (zJ HK.out) hk (.inl rfl)) (hb) (hi) ?_; clear HO549 HK HB HI0; intro HO549 HK HB HI0; (try clear hb); (try clear hb2); (try clear hk); (try clear hi))))
                    go_ret
                    exact ⟨zE, zI HI0.out, zH1 HB.out (IsS85.ge HI0.out), zJ HK.out⟩
                  · rw [if_neg c45] at H
                    exact absurd H (by simp)
                · rw [if_neg c42] at H
                  exact absurd H (by simp)
              · rw [if_neg c41] at H
                exact absurd H (by simp)
            · rw [if_neg c40] at H
              exact absurd H (by simp)
    · rw [if_neg c5] at H
      exact absurd H (by simp)
  · rw [if_neg c4] at H
    exact absurd H (by simp)

/-! ### spec_DrawParseField: function 28 -/
def spec_DrawParseField.l0 : Nat → ByteArray → List Int → Int → Int → Option (ByteArray)
  | 0, _, _, _, _ => none
  | k + 1, x7, x564000, x564001, x564002 => (spec_l01Next.f x564000 x564001 x564002 3).bind fun bt574 => (if bt574.1 = 0 then ((spec_l01Damage.f x564000 bt574.2.1 bt574.2.2 x7).bind fun bt577 => (spec_DrawParseField.l0 k bt577.1 x564000 bt577.2.1 bt577.2.2)) else (some x7))
def spec_DrawParseField.f (k : Nat) (l0 : List Int) : Option (ByteArray) := (spec_l01From.f k l0).bind fun bt560 => ((spec_l05With.f k bt560.1 bt560.2.1 bt560.2.2).bind fun bt564 => ((spec_l05Text.f k bt564.1 bt564.2.1 bt564.2.2.1 bt564.2.2.2.1).bind fun t573 => (spec_DrawParseField.l0 k t573 bt560.1 bt564.2.2.2.2.2.2.1 bt564.2.2.2.2.2.2.2)))
set_option maxHeartbeats 8000000 in
set_option maxRecDepth 100000 in
theorem spec_DrawParseField.calls (k : Nat) (A0 : Option Addr) (c0 : Nat) (l0 : List Int) (r : ByteArray) (w : World) (hr0 : Kd.C (Kd.int .u8) w A0 l0.length l0) (hc0 : l0.length ≤ c0) (h : spec_DrawParseField.f k l0 = some r) :
    Calls Tryz.prog 28 #[.slice A0 l0.length c0] w fun e w' => e = .returned (.string r) ∧ Below w.heap.size w w' := by
  have hu25 := Tryz.underlying25
  have HR0 := Aside0.mk hr0
  have HC0 := Aside0.mk hc0
  clear hr0 hc0
  have HB := Aside0.mk (Below.refl w.heap.size w)
  have H : ((spec_l01From.f k l0).bind fun bt560 => ((spec_l05With.f k bt560.1 bt560.2.1 bt560.2.2).bind fun bt564 => ((spec_l05Text.f k bt564.1 bt564.2.1 bt564.2.2.1 bt564.2.2.2.1).bind fun t573 => (spec_DrawParseField.l0 k t573 bt560.1 bt564.2.2.2.2.2.2.1 bt564.2.2.2.2.2.2.2)))) = some r := h
  clear h
  obtain ⟨⟨t560, t561, t562⟩, A2, H⟩ := zb H; (try dsimp only at H)
  obtain ⟨⟨t564, t565, t566, t567, t568, t569, t570, t571⟩, A3, H⟩ := zb H; (try dsimp only at H)
  obtain ⟨t573, A4, H⟩ := zb H
  have H' := Aside0.mk H
  clear H
  go_enter Tryz.func28, Tryz.ntmps28
  go_wp2_with (first | ((with_reducible refine gate_callee (f := 31) rfl ?_); refine goesL_ (some 9) rfl rfl Tryz.func31 (by kernel_rfl) rfl #[.slice A0 l0.length c0] rfl zM ?_; (with_reducible refine (spec_l01From.calls k _ _ l0 t560 t561 t562 w _ ?side1 ?side2 ?side3 A2.out).mono ?_); (case side1 => exact zH HB.out); (case side2 => exact HR0.out); (case side3 => exact HC0.out); rintro e w5 ⟨g563, rfl, hi, hb, hb2⟩; refine ⟨_, rfl, ?_⟩; refine zA2 (hb) (hi) ?_; clear HB; intro HB HI563; (try clear hb); (try clear hb2); (try clear hk); (try clear hi)) | ((with_reducible refine gate_callee (f := 32) rfl ?_); refine goesL_ (some 12) rfl rfl Tryz.func32 (by kernel_rfl) rfl #[.pointer (some ⟨g563, 0, none⟩)] rfl zM ?_; (with_reducible refine (spec_l05With.calls k g563 t560 t561 t562 t564 t565 t566 t567 t568 t569 t570 t571 w _ ?side1 ?side2 A3.out).mono ?_); (case side1 => exact zI HI563.out); (case side2 => exact zH1 HB.out (IsS85.ge HI563.out)); rintro e w6 ⟨rfl, hi, hb, hk⟩; refine ⟨_, rfl, ?_⟩; refine zA2 (hb) (hi) ?_; clear HB HI563; intro HB HI563; (try clear hb); (try clear hb2); (try clear hk); (try clear hi)) | ((with_reducible refine gate_dst (N := 4) rfl ?_); refine zX 4 #[.int .i64 0, .int .i64 0, .int .i64 0, .int .i64 0] 25 ?_; intro gb572 hg w7 hbox hb; refine zA7 (IsS85.below (zI HI563.out) hb) (below_step (zH1 HB.out (IsS85.ge HI563.out)) hb) (hbox) ((by rw [hg]; exact (below_size (zH1 HB.out (IsS85.ge HI563.out))) : w.heap.size ≤ gb572)) ((by rw [hg]; exact (below_size (zH1 HB.out (IsS85.ge HI563.out))) : w.heap.size ≤ gb572)) ((zl hg (IsS85.lt (show IsS85 w _ g563 t560 t570 t571 from zI HI563.out)) : g563 ≠ gb572)) ((zg hg (IsS85.lt (show IsS85 w _ g563 t560 t570 t571 from zI HI563.out)) : gb572 ≠ g563)) ?_; clear HI563 HB; intro HI563 HB BK572 GW572 GE572 NB563_572 NB572_563; clear hb hbox hg; have hnb8 := NB572_563.out; have hnc8 := NB563_572.out; obtain ⟨hcz9_0, hcz9_1, hcz9_2, hcz9_3⟩ := zc4 BK572; obtain ⟨hfz9_0, hfz9_1, hfz9_2, hfz9_3⟩ := zf4 BK572) | ((with_reducible refine gate_callee (f := 63) rfl ?_); refine goesL_ (some 17) rfl rfl Tryz.func63 (by kernel_rfl) rfl #[.agg #[.int .i64 t564, .int .i64 t565, .int .i64 t566, .int .i64 t567]] rfl zM ?_; (with_reducible refine (spec_l05Text.calls k t564 t565 t566 t567 t573 _ A4.out).mono ?_); rintro e w10 ⟨rfl, hb⟩; refine ⟨_, rfl, ?_⟩; refine zA3 (IsS85.below (show IsS85 w ((((w7.setCell ⟨gb572, 0, none⟩ (.int .i64 t564)).setCell ⟨gb572, 1, none⟩ (.int .i64 t565)).setCell ⟨gb572, 2, none⟩ (.int .i64 t566)).setCell ⟨gb572, 3, none⟩ (.int .i64 t567)) g563 t560 t570 t571 from zI1 HI563.out NB563_572.out) hb) (blk_below (g := gb572) (o := .cells #[.int .i64 t564, .int .i64 t565, .int .i64 t566, .int .i64 t567] 25 (0, 0)) (zQ BK572.out) hb) (below_step (zH2 HB.out (IsS85.ge HI563.out) GE572.out) hb) ?_; clear HI563 BK572 HB; intro HI563 BK572 HB; (try clear hb); (try clear hb2); (try clear hk); (try clear hi)))
  go_loopg [7] k (fun kq v7 w' => ∃ (x7_1 : ByteArray) (x564001_1 : Int) (x564002_1 : Int), v7 = .string x7_1 ∧ Aside0 (spec_DrawParseField.l0 kq x7_1 t560 x564001_1 x564002_1 = some r) ∧ Aside0 (kq ≤ k) ∧ Aside0 (w'.heap[gb572]? = some (.cells #[.int .i64 t564, .int .i64 t565, .int .i64 t566, .int .i64 t567] 25 (0, 0))) ∧ Aside0 (IsS85 w w' g563 t560 x564001_1 x564002_1) ∧ Aside0 (Below w.heap.size w w'))
  case atStart => exact ⟨(t573), (t570), (t571), (zF), H', ⟨Nat.le_refl _⟩, ⟨zB BK572.out⟩, ⟨zI1 HI563.out NB563_572.out⟩, ⟨zH2 HB.out (IsS85.ge HI563.out) GE572.out⟩⟩
  case round =>
    clear H'
    try clear c2
    try clear p2
    try clear c3
    try clear c6
    try clear c8
    try clear hcz9_0
    try clear hcz9_1
    try clear hcz9_2
    try clear hcz9_3
    try clear hfz9_0
    try clear hfz9_1
    try clear hfz9_2
    try clear hfz9_3
    obtain ⟨x7_1, x564001_1, x564002_1, rfl, HA, HK1, BK572, HI563, HB⟩ := hrel
    cases gk with
    | zero => exact absurd HA.out (by simp [spec_DrawParseField.l0])
    | succ k1 =>
      have H := HA.out
      clear HA
      simp only [spec_DrawParseField.l0] at H
      obtain ⟨⟨t574, t575, t576⟩, A11, H⟩ := zb H; (try dsimp only at H)
      by_cases c12 : t574 = 0
      · rw [if_pos c12] at H
        have c12b0 := zq1 c12
        have c12b1 := zq2 c12
        clear c12
        obtain ⟨⟨t577, t578, t579⟩, A13, H⟩ := zb H; (try dsimp only at H)
        have H' := Aside0.mk H
        clear H
        go_wp2_with (first | ((with_reducible refine gate_callee (f := 58) rfl ?_); refine goesL_ (some 19) rfl rfl Tryz.func58 (by kernel_rfl) rfl #[.pointer (some ⟨g563, 0, none⟩), .int .i64 3] rfl zM ?_; (with_reducible refine (spec_l01Next.calls g563 t560 x564001_1 x564002_1 3 t574 t575 t576 w _ ?side1 ?side2 A11.out).mono ?_); (case side1 => exact zI1 HI563.out NB563_572.out); (case side2 => exact zH2 HB.out (IsS85.ge HI563.out) GE572.out); rintro e w14 ⟨rfl, hi, hb, hk⟩; refine ⟨_, rfl, ?_⟩; refine zA3 (zYk hk BK572.out NB572_563.out) (hb) (hi) ?_; clear BK572 HB HI563; intro BK572 HB HI563; (try clear hb); (try clear hb2); (try clear hk); (try clear hi)) | ((with_reducible refine gate_callee (f := 64) rfl ?_); refine goesL_ (some 23) rfl rfl Tryz.func64 (by kernel_rfl) rfl #[.pointer (some ⟨g563, 0, none⟩), .string x7_1] rfl zM ?_; (with_reducible refine (spec_l01Damage.calls g563 t560 t575 t576 x7_1 t577 t578 t579 w _ ?side1 ?side2 A13.out).mono ?_); (case side1 => exact zI1 HI563.out NB563_572.out); (case side2 => exact zH2 HB.out (IsS85.ge HI563.out) GE572.out); rintro e w15 ⟨rfl, hi, hb, hk⟩; refine ⟨_, rfl, ?_⟩; refine zA3 (zYk hk BK572.out NB572_563.out) (hb) (hi) ?_; clear BK572 HB HI563; intro BK572 HB HI563; (try clear hb); (try clear hb2); (try clear hk); (try clear hi)))
        go_roundg k1
        case measure => have := HK1.out; omega
        case rel => exact ⟨(t577), (t578), (t579), (zF), H', ⟨by have := HK1.out; omega⟩, ⟨zB BK572.out⟩, ⟨zI1 HI563.out NB563_572.out⟩, ⟨zH2 HB.out (IsS85.ge HI563.out) GE572.out⟩⟩
      · rw [if_neg c12] at H
        have c12b0 := zq3 c12
        have c12b1 := zq4 c12
        obtain rfl := Option.some.inj H
        go_wp2_with (first | ((with_reducible refine gate_callee (f := 58) rfl ?_); refine goesL_ (some 19) rfl rfl Tryz.func58 (by kernel_rfl) rfl #[.pointer (some ⟨g563, 0, none⟩), .int .i64 3] rfl zM ?_; (with_reducible refine (spec_l01Next.calls g563 t560 x564001_1 x564002_1 3 t574 t575 t576 w _ ?side1 ?side2 A11.out).mono ?_); (case side1 => exact zI1 HI563.out NB563_572.out); (case side2 => exact zH2 HB.out (IsS85.ge HI563.out) GE572.out); rintro e w16 ⟨rfl, hi, hb, hk⟩; refine ⟨_, rfl, ?_⟩; refine zA3 (zYk hk BK572.out NB572_563.out) (hb) (hi) ?_; clear BK572 HB HI563; intro BK572 HB HI563; (try clear hb); (try clear hb2); (try clear hk); (try clear hi)))
        go_ret
        exact ⟨zE, zH2 HB.out (IsS85.ge HI563.out) GE572.out⟩

end Go.Proofs.YtlmohkbimnhecaaGreatDoor.Q
