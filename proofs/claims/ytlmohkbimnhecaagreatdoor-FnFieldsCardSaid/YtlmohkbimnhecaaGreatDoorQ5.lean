-- Written by a program of this session (wip/tools/px.sh) over the seat's translation; Lean checks it.
import Derived.Test.YtlmohkbimnhecaaGreatDoorQ0
import Derived.Test.YtlmohkbimnhecaaGreatDoorSq
import Derived.Test.YtlmohkbimnhecaaGreatDoorQ1
import Derived.Test.YtlmohkbimnhecaaGreatDoorQ2
import Derived.Test.YtlmohkbimnhecaaGreatDoorQ3
import Derived.Test.YtlmohkbimnhecaaGreatDoorQ4
namespace Go.Proofs.YtlmohkbimnhecaaGreatDoor.Q
open Go.RowKit Go.Proofs.YtlmohkbimnhecaaGreatDoorW.PrintWords Go.Proofs.YtlmohkbimnhecaaGreatDoorW.PrintLast Go.Proofs.YtlmohkbimnhecaaGreatDoorW.PrintMore
attribute [local go_sem] max2_int min2_int max_two min_two max_three min_three max_four min_four   -- for this text's walks alone
set_option linter.unusedVariables false
set_option linter.unusedSimpArgs false

/-! ### spec_DrawUnionOf: function 17 -/
def spec_DrawUnionOf.f (k : Nat) (l0 : List Int) : Option (Int × Int × Int × Int × Int × Int × Int × Int) := (spec_l01From.f k l0).bind fun bt394 => ((spec_l01Next.f bt394.1 bt394.2.1 bt394.2.2 5).bind fun bt398 => ((spec_l01Next.f bt394.1 bt398.2.1 bt398.2.2 2).bind fun bt401 => ((spec_l05Draw.f k bt394.1 bt401.2.1 bt401.2.2 (wrap64 (1 + bt398.1)) bt401.1).bind fun bt404 => ((spec_l01Next.f bt394.1 bt404.2.2.2.2.1 bt404.2.2.2.2.2 4).bind fun bt411 => ((spec_l01Next.f bt394.1 bt411.2.1 bt411.2.2 2).bind fun bt414 => ((spec_l05Draw.f k bt394.1 bt414.2.1 bt414.2.2 (wrap64 (1 + bt411.1)) bt414.1).bind fun bt417 => ((spec_l05Bad.f bt394.1 bt417.2.2.2.2.1 bt417.2.2.2.2.2 bt404.1 bt404.2.1 bt404.2.2.1 bt404.2.2.2.1).bind fun bt424 => ((spec_l05Bad.f bt394.1 bt424.2.2.2.2.1 bt424.2.2.2.2.2 bt417.1 bt417.2.1 bt417.2.2.1 bt417.2.2.2.1).bind fun bt430 => (some (bt424.1, bt424.2.1, bt424.2.2.1, bt424.2.2.2.1, bt430.1, bt430.2.1, bt430.2.2.1, bt430.2.2.2.1))))))))))
def spec_DrawUnionOf.T4 : Bool × List (List Nat × List Nat) := (true, [([], []), ([], []), ([0, 1], [0, 1]), ([], []), ([], []), ([3, 4, 2], [3, 4]), ([2, 5, 0, 1, 2], [2]), ([5, 6, 0, 1, 2, 3, 4, 5, 6], [5])])
def spec_DrawUnionOf.B4 : List Nat := [0, 0, 3, 0, 0, 31, 63, 127]
theorem spec_DrawUnionOf.tab4 : rtab .any (opsOf Tryz.f17 4) = spec_DrawUnionOf.T4 := by kernel_rfl
theorem spec_DrawUnionOf.bits4 : waitsOk spec_DrawUnionOf.T4.2 spec_DrawUnionOf.B4 = true := by kernel_rfl
set_option maxHeartbeats 8000000 in
set_option maxRecDepth 100000 in
theorem spec_DrawUnionOf.calls (k : Nat) (A0 : Option Addr) (c0 : Nat) (l0 : List Int) (r1 : Int) (r2 : Int) (r3 : Int) (r4 : Int) (r5 : Int) (r6 : Int) (r7 : Int) (r8 : Int) (w : World) (hr0 : Kd.C (Kd.int .u8) w A0 l0.length l0) (hc0 : l0.length ≤ c0) (h : spec_DrawUnionOf.f k l0 = some (r1, r2, r3, r4, r5, r6, r7, r8)) :
    Calls Tryz.prog 17 #[.slice A0 l0.length c0] w fun e w' => e = .returned (.tuple #[.agg #[.int .i64 r1, .int .i64 r2, .int .i64 r3, .int .i64 r4], .agg #[.int .i64 r5, .int .i64 r6, .int .i64 r7, .int .i64 r8]]) ∧ Below w.heap.size w w' := by
  have hu25 := Tryz.underlying25
  have HR0 := Aside0.mk hr0
  have HC0 := Aside0.mk hc0
  clear hr0 hc0
  have HB := Aside0.mk (Below.refl w.heap.size w)
  have H : ((spec_l01From.f k l0).bind fun bt394 => ((spec_l01Next.f bt394.1 bt394.2.1 bt394.2.2 5).bind fun bt398 => ((spec_l01Next.f bt394.1 bt398.2.1 bt398.2.2 2).bind fun bt401 => ((spec_l05Draw.f k bt394.1 bt401.2.1 bt401.2.2 (wrap64 (1 + bt398.1)) bt401.1).bind fun bt404 => ((spec_l01Next.f bt394.1 bt404.2.2.2.2.1 bt404.2.2.2.2.2 4).bind fun bt411 => ((spec_l01Next.f bt394.1 bt411.2.1 bt411.2.2 2).bind fun bt414 => ((spec_l05Draw.f k bt394.1 bt414.2.1 bt414.2.2 (wrap64 (1 + bt411.1)) bt414.1).bind fun bt417 => ((spec_l05Bad.f bt394.1 bt417.2.2.2.2.1 bt417.2.2.2.2.2 bt404.1 bt404.2.1 bt404.2.2.1 bt404.2.2.2.1).bind fun bt424 => ((spec_l05Bad.f bt394.1 bt424.2.2.2.2.1 bt424.2.2.2.2.2 bt417.1 bt417.2.1 bt417.2.2.1 bt417.2.2.2.1).bind fun bt430 => (some (bt424.1, bt424.2.1, bt424.2.2.1, bt424.2.2.2.1, bt430.1, bt430.2.1, bt430.2.2.1, bt430.2.2.2.1))))))))))) = some (r1, r2, r3, r4, r5, r6, r7, r8) := h
  clear h
  obtain ⟨⟨t394, t395, t396⟩, A2, H⟩ := zb H; (try dsimp only at H)
  obtain ⟨⟨t398, t399, t400⟩, A3, H⟩ := zb H; (try dsimp only at H)
  obtain ⟨⟨t401, t402, t403⟩, A4, H⟩ := zb H; (try dsimp only at H)
  obtain ⟨⟨t404, t405, t406, t407, t408, t409⟩, A5, H⟩ := zb H; (try dsimp only at H)
  obtain ⟨⟨t411, t412, t413⟩, A6, H⟩ := zb H; (try dsimp only at H)
  obtain ⟨⟨t414, t415, t416⟩, A7, H⟩ := zb H; (try dsimp only at H)
  obtain ⟨⟨t417, t418, t419, t420, t421, t422⟩, A8, H⟩ := zb H; (try dsimp only at H)
  obtain ⟨⟨t424, t425, t426, t427, t428, t429⟩, A9, H⟩ := zb H; (try dsimp only at H)
  obtain ⟨⟨t430, t431, t432, t433, t434, t435⟩, A10, H⟩ := zb H; (try dsimp only at H)
  simp only [Option.some.injEq, Prod.mk.injEq] at H
  obtain ⟨rfl, rfl, rfl, rfl, rfl, rfl, rfl, rfl⟩ := H
  go_enter Tryz.func17, Tryz.ntmps17
  try go_wp2_with (first | ((with_reducible refine gate_dst (N := 2) rfl ?_); refine zX 2 #[.int .i64 0, .int .i64 0, .int .i64 0, .int .i64 0] 25 ?_; intro gb392 hg w11 hbox hb; refine zA4 (below_step (zH HB.out) hb) (hbox) ((zS hg (below_size (zH HB.out)) : w.heap.size ≤ gb392)) ((zS hg (below_size (zH HB.out)) : w.heap.size ≤ gb392)) ?_; clear HB; intro HB BK392 GW392 GE392; clear hb hbox hg) | ((with_reducible refine gate_dst (N := 3) rfl ?_); refine zX 3 #[.int .i64 0, .int .i64 0, .int .i64 0, .int .i64 0] 25 ?_; intro gb393 hg w12 hbox hb; refine zA7 (zY BK392.out hb) (below_step (zH1 HB.out GE392.out) hb) (hbox) ((zS hg (below_size (zH1 HB.out GE392.out)) : w.heap.size ≤ gb393)) ((zS hg (below_size (zH1 HB.out GE392.out)) : w.heap.size ≤ gb393)) ((zl hg (blk_lt (g := gb392) (o := .cells #[.int .i64 0, .int .i64 0, .int .i64 0, .int .i64 0] 25 (0, 0)) (zB BK392.out)) : gb392 ≠ gb393)) ((zg hg (blk_lt (g := gb392) (o := .cells #[.int .i64 0, .int .i64 0, .int .i64 0, .int .i64 0] 25 (0, 0)) (zB BK392.out)) : gb393 ≠ gb392)) ?_; clear BK392 HB; intro BK392 HB BK393 GW393 GE393 NB392_393 NB393_392; clear hb hbox hg) | ((with_reducible refine gate_callee (f := 31) rfl ?_); refine goesL_ (some 8) rfl rfl Tryz.func31 (by kernel_rfl) rfl #[.slice A0 l0.length c0] rfl zM ?_; (with_reducible refine (spec_l01From.calls k _ _ l0 t394 t395 t396 w _ ?side1 ?side2 ?side3 A2.out).mono ?_); (case side1 => exact zH2 HB.out GE392.out GE393.out); (case side2 => exact HR0.out); (case side3 => exact HC0.out); rintro e w13 ⟨g397, rfl, hi, hb, hb2⟩; refine ⟨_, rfl, ?_⟩; refine zA8 (zY BK392.out hb2) (zY BK393.out hb2) (hb) (hi) (IsS85.ne_blk hi (zY BK392.out hb2) (by decide)) (Ne.symm (IsS85.ne_blk hi (zY BK392.out hb2) (by decide))) (IsS85.ne_blk hi (zY BK393.out hb2) (by decide)) (Ne.symm (IsS85.ne_blk hi (zY BK393.out hb2) (by decide))) ?_; clear BK392 BK393 HB; intro BK392 BK393 HB HI397 NB397_392 NB392_397 NB397_393 NB393_397; (try clear hb); (try clear hb2); (try clear hk); (try clear hi)) | ((with_reducible refine gate_callee (f := 58) rfl ?_); refine goesL_ (some 11) rfl rfl Tryz.func58 (by kernel_rfl) rfl #[.pointer (some ⟨g397, 0, none⟩), .int .i64 5] rfl zM ?_; (with_reducible refine (spec_l01Next.calls g397 t394 t395 t396 5 t398 t399 t400 w _ ?side1 ?side2 A3.out).mono ?_); (case side1 => exact zI2 HI397.out NB397_392.out NB397_393.out); (case side2 => exact zH3 HB.out (IsS85.ge HI397.out) GE392.out GE393.out); rintro e w14 ⟨rfl, hi, hb, hk⟩; refine ⟨_, rfl, ?_⟩; refine zA4 (zYk hk BK392.out NB392_397.out) (zYk hk BK393.out NB393_397.out) (hb) (hi) ?_; clear BK392 BK393 HB HI397; intro BK392 BK393 HB HI397; (try clear hb); (try clear hb2); (try clear hk); (try clear hi)) | ((with_reducible refine gate_callee (f := 58) rfl ?_); refine goesL_ (some 14) rfl rfl Tryz.func58 (by kernel_rfl) rfl #[.pointer (some ⟨g397, 0, none⟩), .int .i64 2] rfl zM ?_; (with_reducible refine (spec_l01Next.calls g397 t394 t399 t400 2 t401 t402 t403 w _ ?side1 ?side2 A4.out).mono ?_); (case side1 => exact zI2 HI397.out NB397_392.out NB397_393.out); (case side2 => exact zH3 HB.out (IsS85.ge HI397.out) GE392.out GE393.out); rintro e w15 ⟨rfl, hi, hb, hk⟩; refine ⟨_, rfl, ?_⟩; refine zA4 (zYk hk BK392.out NB392_397.out) (zYk hk BK393.out NB393_397.out) (hb) (hi) ?_; clear BK392 BK393 HB HI397; intro BK392 BK393 HB HI397; (try clear hb); (try clear hb2); (try clear hk); (try clear hi)) | ((with_reducible refine gate_callee (f := 57) rfl ?_); refine goesL_ (some 15) rfl rfl Tryz.func57 (by kernel_rfl) rfl #[.pointer (some ⟨g397, 0, none⟩), .int .i64 (wrap64 (1 + t398)), .int .i64 t401] rfl zM ?_; (with_reducible refine (spec_l05Draw.calls k g397 t394 t402 t403 (wrap64 (1 + t398)) t401 t404 t405 t406 t407 t408 t409 w _ ?side1 ?side2 A5.out).mono ?_); (case side1 => exact zI2 HI397.out NB397_392.out NB397_393.out); (case side2 => exact zH3 HB.out (IsS85.ge HI397.out) GE392.out GE393.out); rintro e w16 ⟨rfl, hi, hb, hk⟩; refine ⟨_, rfl, ?_⟩; refine zA4 (zYk hk BK392.out NB392_397.out) (zYk hk BK393.out NB393_397.out) (hb) (hi) ?_; clear BK392 BK393 HB HI397; intro BK392 BK393 HB HI397; (try clear hb); (try clear hb2); (try clear hk); (try clear hi)) | ((with_reducible refine gate_dst (N := 5) rfl ?_); refine zX 5 #[.int .i64 0, .int .i64 0, .int .i64 0, .int .i64 0] 25 ?_; intro gb410 hg w17 hbox hb; refine zA13 (zY BK392.out hb) (zY BK393.out hb) (IsS85.below (zI2 HI397.out NB397_392.out NB397_393.out) hb) (below_step (zH3 HB.out (IsS85.ge HI397.out) GE392.out GE393.out) hb) (hbox) ((by rw [hg]; exact (below_size (zH3 HB.out (IsS85.ge HI397.out) GE392.out GE393.out)) : w.heap.size ≤ gb410)) ((by rw [hg]; exact (below_size (zH3 HB.out (IsS85.ge HI397.out) GE392.out GE393.out)) : w.heap.size ≤ gb410)) ((zl hg (blk_lt (g := gb392) (o := .cells #[.int .i64 0, .int .i64 0, .int .i64 0, .int .i64 0] 25 (0, 0)) (zB BK392.out)) : gb392 ≠ gb410)) ((zg hg (blk_lt (g := gb392) (o := .cells #[.int .i64 0, .int .i64 0, .int .i64 0, .int .i64 0] 25 (0, 0)) (zB BK392.out)) : gb410 ≠ gb392)) ((zl hg (blk_lt (g := gb393) (o := .cells #[.int .i64 0, .int .i64 0, .int .i64 0, .int .i64 0] 25 (0, 0)) (zB BK393.out)) : gb393 ≠ gb410)) ((zg hg (blk_lt (g := gb393) (o := .cells #[.int .i64 0, .int .i64 0, .int .i64 0, .int .i64 0] 25 (0, 0)) (zB BK393.out)) : gb410 ≠ gb393)) ((zl hg (IsS85.lt (show IsS85 w _ g397 t394 t408 t409 from zI2 HI397.out NB397_392.out NB397_393.out)) : g397 ≠ gb410)) ((zg hg (IsS85.lt (show IsS85 w _ g397 t394 t408 t409 from zI2 HI397.out NB397_392.out NB397_393.out)) : gb410 ≠ g397)) ?_; clear BK392 BK393 HI397 HB; intro BK392 BK393 HI397 HB BK410 GW410 GE410 NB392_410 NB410_392 NB393_410 NB410_393 NB397_410 NB410_397; clear hb hbox hg; have hnb18 := NB410_392.out; have hnc18 := NB392_410.out; have hnb19 := NB410_393.out; have hnc19 := NB393_410.out; have hnb20 := NB410_397.out; have hnc20 := NB397_410.out; obtain ⟨hcz21_0, hcz21_1, hcz21_2, hcz21_3⟩ := zc4 BK410; obtain ⟨hfz21_0, hfz21_1, hfz21_2, hfz21_3⟩ := zf4 BK410) | ((with_reducible refine gate_callee (f := 58) rfl ?_); refine goesL_ (some 18) rfl rfl Tryz.func58 (by kernel_rfl) rfl #[.pointer (some ⟨g397, 0, none⟩), .int .i64 4] rfl zM ?_; (with_reducible refine (spec_l01Next.calls g397 t394 t408 t409 4 t411 t412 t413 w _ ?side1 ?side2 A6.out).mono ?_); (case side1 => exact zI3 HI397.out NB397_392.out NB397_393.out NB397_410.out); (case side2 => exact zH4 HB.out (IsS85.ge HI397.out) GE392.out GE393.out GE410.out); rintro e w22 ⟨rfl, hi, hb, hk⟩; refine ⟨_, rfl, ?_⟩; refine zA5 (KeepBut.blk hk (g' := gb392) (o := .cells #[.int .i64 0, .int .i64 0, .int .i64 0, .int .i64 0] 25 (0, 0)) (zQ1 BK392.out NB392_410.out) NB392_397.out (by simp)) (KeepBut.blk hk (g' := gb393) (o := .cells #[.int .i64 0, .int .i64 0, .int .i64 0, .int .i64 0] 25 (0, 0)) (zQ1 BK393.out NB393_410.out) NB393_397.out (by simp)) (KeepBut.blk hk (g' := gb410) (o := .cells #[.int .i64 t404, .int .i64 t405, .int .i64 t406, .int .i64 t407] 25 (0, 0)) (zQ BK410.out) NB410_397.out (by simp)) (hb) (hi) ?_; clear BK392 BK393 BK410 HB HI397; intro BK392 BK393 BK410 HB HI397; (try clear hb); (try clear hb2); (try clear hk); (try clear hi)) | ((with_reducible refine gate_callee (f := 58) rfl ?_); refine goesL_ (some 21) rfl rfl Tryz.func58 (by kernel_rfl) rfl #[.pointer (some ⟨g397, 0, none⟩), .int .i64 2] rfl zM ?_; (with_reducible refine (spec_l01Next.calls g397 t394 t412 t413 2 t414 t415 t416 w _ ?side1 ?side2 A7.out).mono ?_); (case side1 => exact zI3 HI397.out NB397_392.out NB397_393.out NB397_410.out); (case side2 => exact zH4 HB.out (IsS85.ge HI397.out) GE392.out GE393.out GE410.out); rintro e w23 ⟨rfl, hi, hb, hk⟩; refine ⟨_, rfl, ?_⟩; refine zA5 (zYk hk BK392.out NB392_397.out) (zYk hk BK393.out NB393_397.out) (zYk hk BK410.out NB410_397.out) (hb) (hi) ?_; clear BK392 BK393 BK410 HB HI397; intro BK392 BK393 BK410 HB HI397; (try clear hb); (try clear hb2); (try clear hk); (try clear hi)) | ((with_reducible refine gate_callee (f := 57) rfl ?_); refine goesL_ (some 22) rfl rfl Tryz.func57 (by kernel_rfl) rfl #[.pointer (some ⟨g397, 0, none⟩), .int .i64 (wrap64 (1 + t411)), .int .i64 t414] rfl zM ?_; (with_reducible refine (spec_l05Draw.calls k g397 t394 t415 t416 (wrap64 (1 + t411)) t414 t417 t418 t419 t420 t421 t422 w _ ?side1 ?side2 A8.out).mono ?_); (case side1 => exact zI3 HI397.out NB397_392.out NB397_393.out NB397_410.out); (case side2 => exact zH4 HB.out (IsS85.ge HI397.out) GE392.out GE393.out GE410.out); rintro e w24 ⟨rfl, hi, hb, hk⟩; refine ⟨_, rfl, ?_⟩; refine zA5 (zYk hk BK392.out NB392_397.out) (zYk hk BK393.out NB393_397.out) (zYk hk BK410.out NB410_397.out) (hb) (hi) ?_; clear BK392 BK393 BK410 HB HI397; intro BK392 BK393 BK410 HB HI397; (try clear hb); (try clear hb2); (try clear hk); (try clear hi)) | ((with_reducible refine gate_dst (N := 6) rfl ?_); refine zX 6 #[.int .i64 0, .int .i64 0, .int .i64 0, .int .i64 0] 25 ?_; intro gb423 hg w25 hbox hb; have n0_ := Aside0.mk (zY BK392.out hb); have n1_ := Aside0.mk (zY BK393.out hb); have n2_ := Aside0.mk (IsS85.below (zI3 HI397.out NB397_392.out NB397_393.out NB397_410.out) hb); have n3_ := Aside0.mk (zY BK410.out hb); have n4_ := Aside0.mk (below_step (zH4 HB.out (IsS85.ge HI397.out) GE392.out GE393.out GE410.out) hb); have n5_ := Aside0.mk (hbox); have n6_ := Aside0.mk ((by rw [hg]; exact (below_size (zH4 HB.out (IsS85.ge HI397.out) GE392.out GE393.out GE410.out)) : w.heap.size ≤ gb423)); have n7_ := Aside0.mk ((by rw [hg]; exact (below_size (zH4 HB.out (IsS85.ge HI397.out) GE392.out GE393.out GE410.out)) : w.heap.size ≤ gb423)); have n8_ := Aside0.mk ((zl hg (blk_lt (g := gb392) (o := .cells #[.int .i64 0, .int .i64 0, .int .i64 0, .int .i64 0] 25 (0, 0)) (zB BK392.out)) : gb392 ≠ gb423)); have n9_ := Aside0.mk ((zg hg (blk_lt (g := gb392) (o := .cells #[.int .i64 0, .int .i64 0, .int .i64 0, .int .i64 0] 25 (0, 0)) (zB BK392.out)) : gb423 ≠ gb392)); have n10_ := Aside0.mk ((zl hg (blk_lt (g := gb393) (o := .cells #[.int .i64 0, .int .i64 0, .int .i64 0, .int .i64 0] 25 (0, 0)) (zB BK393.out)) : gb393 ≠ gb423)); have n11_ := Aside0.mk ((zg hg (blk_lt (g := gb393) (o := .cells #[.int .i64 0, .int .i64 0, .int .i64 0, .int .i64 0] 25 (0, 0)) (zB BK393.out)) : gb423 ≠ gb393)); have n12_ := Aside0.mk ((zl hg (blk_lt (g := gb410) (o := .cells #[.int .i64 t404, .int .i64 t405, .int .i64 t406, .int .i64 t407] 25 (0, 0)) (zB BK410.out)) : gb410 ≠ gb423)); have n13_ := Aside0.mk ((zg hg (blk_lt (g := gb410) (o := .cells #[.int .i64 t404, .int .i64 t405, .int .i64 t406, .int .i64 t407] 25 (0, 0)) (zB BK410.out)) : gb423 ≠ gb410)); have n14_ := Aside0.mk ((zl hg (IsS85.lt (show IsS85 w _ g397 t394 t421 t422 from zI3 HI397.out NB397_392.out NB397_393.out NB397_410.out)) : g397 ≠ gb423)); have n15_ := Aside0.mk ((zg hg (IsS85.lt (show IsS85 w _ g397 t394 t421 t422 from zI3 HI397.out NB397_392.out NB397_393.out NB397_410.out)) : gb423 ≠ g397)); clear BK392; clear BK393; clear HI397; clear BK410; clear HB; have BK392 := n0_; have BK393 := n1_; have HI397 := n2_; have BK410 := n3_; have HB := n4_; have BK423 := n5_; have GW423 := n6_; have GE423 := n7_; have NB392_423 := n8_; have NB423_392 := n9_; have NB393_423 := n10_; have NB423_393 := n11_; have NB410_423 := n12_; have NB423_410 := n13_; have NB397_423 := n14_; have NB423_397 := n15_; clear n0_ n1_ n2_ n3_ n4_ n5_ n6_ n7_ n8_ n9_ n10_ n11_ n12_ n13_ n14_ n15_; clear hb hbox hg; have hnb26 := NB423_392.out; have hnc26 := NB392_423.out; have hnb27 := NB423_393.out; have hnc27 := NB393_423.out; have hnb28 := NB423_410.out; have hnc28 := NB410_423.out; have hnb29 := NB423_397.out; have hnc29 := NB397_423.out; obtain ⟨hcz30_0, hcz30_1, hcz30_2, hcz30_3⟩ := zc4 BK423; obtain ⟨hfz30_0, hfz30_1, hfz30_2, hfz30_3⟩ := zf4 BK423))
  have n0_ : Aside0 (((((w25.setCell ⟨gb423, 0, none⟩ (.int .i64 t417)).setCell ⟨gb423, 1, none⟩ (.int .i64 t418)).setCell ⟨gb423, 2, none⟩ (.int .i64 t419)).setCell ⟨gb423, 3, none⟩ (.int .i64 t420)).heap[gb392]? = some (.cells #[.int .i64 0, .int .i64 0, .int .i64 0, .int .i64 0] 25 (0, 0))) := ⟨zQ1 BK392.out NB392_423.out⟩
  have n1_ : Aside0 (((((w25.setCell ⟨gb423, 0, none⟩ (.int .i64 t417)).setCell ⟨gb423, 1, none⟩ (.int .i64 t418)).setCell ⟨gb423, 2, none⟩ (.int .i64 t419)).setCell ⟨gb423, 3, none⟩ (.int .i64 t420)).heap[gb393]? = some (.cells #[.int .i64 0, .int .i64 0, .int .i64 0, .int .i64 0] 25 (0, 0))) := ⟨zQ1 BK393.out NB393_423.out⟩
  have n2_ : Aside0 (((((w25.setCell ⟨gb423, 0, none⟩ (.int .i64 t417)).setCell ⟨gb423, 1, none⟩ (.int .i64 t418)).setCell ⟨gb423, 2, none⟩ (.int .i64 t419)).setCell ⟨gb423, 3, none⟩ (.int .i64 t420)).heap[gb410]? = some (.cells #[.int .i64 t404, .int .i64 t405, .int .i64 t406, .int .i64 t407] 25 (0, 0))) := ⟨zQ1 BK410.out NB410_423.out⟩
  have n3_ : Aside0 (((((w25.setCell ⟨gb423, 0, none⟩ (.int .i64 t417)).setCell ⟨gb423, 1, none⟩ (.int .i64 t418)).setCell ⟨gb423, 2, none⟩ (.int .i64 t419)).setCell ⟨gb423, 3, none⟩ (.int .i64 t420)).heap[gb423]? = some (.cells #[.int .i64 t417, .int .i64 t418, .int .i64 t419, .int .i64 t420] 25 (0, 0))) := ⟨zQ BK423.out⟩
  have n4_ : Aside0 (IsS85 w ((((w25.setCell ⟨gb423, 0, none⟩ (.int .i64 t417)).setCell ⟨gb423, 1, none⟩ (.int .i64 t418)).setCell ⟨gb423, 2, none⟩ (.int .i64 t419)).setCell ⟨gb423, 3, none⟩ (.int .i64 t420)) g397 t394 t421 t422) := ⟨zI4 HI397.out NB397_392.out NB397_393.out NB397_410.out NB397_423.out⟩
  have n5_ : Aside0 (Below w.heap.size w ((((w25.setCell ⟨gb423, 0, none⟩ (.int .i64 t417)).setCell ⟨gb423, 1, none⟩ (.int .i64 t418)).setCell ⟨gb423, 2, none⟩ (.int .i64 t419)).setCell ⟨gb423, 3, none⟩ (.int .i64 t420))) := ⟨zH5 HB.out (IsS85.ge HI397.out) GE392.out GE393.out GE410.out GE423.out⟩
  (try clear BK392)
  (try clear BK393)
  (try clear BK410)
  (try clear BK423)
  (try clear HI397)
  (try clear HB)
  generalize ((((w25.setCell ⟨gb423, 0, none⟩ (.int .i64 t417)).setCell ⟨gb423, 1, none⟩ (.int .i64 t418)).setCell ⟨gb423, 2, none⟩ (.int .i64 t419)).setCell ⟨gb423, 3, none⟩ (.int .i64 t420)) = w31 at n0_ n1_ n2_ n3_ n4_ n5_ ⊢
  have BK392 := n0_
  have BK393 := n1_
  have BK410 := n2_
  have BK423 := n3_
  have HI397 := n4_
  have HB := n5_
  clear n0_ n1_ n2_ n3_ n4_ n5_
  refine zA6 (blk_drew BK392.out) (blk_drew BK393.out) (blk_drew BK410.out) (blk_drew BK423.out) (IsS85.drew HI397.out) (below_drew1 HB.out) ?_
  clear BK392 BK393 BK410 BK423 HI397 HB
  intro BK392 BK393 BK410 BK423 HI397 HB
  refine start_ (n := 8) (S := fun w' => w'.cell? ⟨gb410, 0, none⟩ = some (.int .i64 t404) ∧ w'.cell? ⟨gb410, 1, none⟩ = some (.int .i64 t405) ∧ w'.cell? ⟨gb410, 2, none⟩ = some (.int .i64 t406) ∧ w'.cell? ⟨gb410, 3, none⟩ = some (.int .i64 t407) ∧ w'.cell? ⟨gb423, 0, none⟩ = some (.int .i64 t417) ∧ w'.cell? ⟨gb423, 1, none⟩ = some (.int .i64 t418) ∧ w'.cell? ⟨gb423, 2, none⟩ = some (.int .i64 t419) ∧ w'.cell? ⟨gb423, 3, none⟩ = some (.int .i64 t420)) (ds := []) #[false, false, false, false, false, false, false, false] (by kernel_rfl) rfl rfl ⟨(blk_cell BK410.out 0).trans rfl, (blk_cell BK410.out 1).trans rfl, (blk_cell BK410.out 2).trans rfl, (blk_cell BK410.out 3).trans rfl, (blk_cell BK423.out 0).trans rfl, (blk_cell BK423.out 1).trans rfl, (blk_cell BK423.out 2).trans rfl, (blk_cell BK423.out 3).trans rfl⟩ (fun hHeld => ?_); refine with_tabW spec_DrawUnionOf.tab4 spec_DrawUnionOf.bits4 (fun HT_ HW_ => ?_)
  generalize w31.drew = w32 at BK392 BK393 BK410 BK423 HI397 HB hHeld ⊢
  refine zP HT_ 0 (some 23) rfl rfl ?_
  refine zP HT_ 3 (some 26) rfl rfl ?_
  refine zT HT_ HW_ hHeld 1 (some 24) rfl rfl ?_
  refine zT HT_ HW_ hHeld 4 (some 27) rfl rfl ?_
  refine one_ (i := 2) (N := some 25) #[true, true, true, true, true, false, false, false] rfl rfl (one_of HT_.out (by kernel_rfl)) (by decide) (fun K hK => ?_)
  refine goes_ Tryz.func34 (by kernel_rfl) rfl #[.pointer (some ⟨g397, 0, none⟩), .agg #[.int .i64 t404, .int .i64 t405, .int .i64 t406, .int .i64 t407]] (by rfl) rfl rfl zM ?_
  with_reducible refine (spec_l05Bad.calls g397 t394 t421 t422 t404 t405 t406 t407 t424 t425 t426 t427 t428 t429 w _ ?side1 ?side2 A9.out).mono ?_
  (case side1 => exact zI4 HI397.out NB397_392.out NB397_393.out NB397_410.out NB397_423.out)
  (case side2 => exact zH5 HB.out (IsS85.ge HI397.out) GE392.out GE393.out GE410.out GE423.out)
  rintro e w33 ⟨rfl, hi, hb, hk⟩
  refine ⟨_, rfl, ?_⟩
  refine zA6 (zYk hk BK392.out NB392_397.out) (zYk hk BK393.out NB393_397.out) (zYk hk BK410.out NB410_397.out) (zYk hk BK423.out NB423_397.out) (hb) (hi) ?_
  clear BK392 BK393 BK410 BK423 HB HI397
  intro BK392 BK393 BK410 BK423 HB HI397
  (try clear hb)
  (try clear hb2)
  (try clear hk)
  (try clear hi)
  refine hK.out _ _ ⟨(blk_cell BK410.out 0).trans rfl, (blk_cell BK410.out 1).trans rfl, (blk_cell BK410.out 2).trans rfl, (blk_cell BK410.out 3).trans rfl, (blk_cell BK423.out 0).trans rfl, (blk_cell BK423.out 1).trans rfl, (blk_cell BK423.out 2).trans rfl, (blk_cell BK423.out 3).trans rfl⟩ (fun hHeld => ?_)
  clear hK K
  refine zW (some 25) ?_
  refine one_ (i := 5) (N := some 28) #[true, true, true, true, true, true, false, false] rfl rfl (one_of HT_.out (by kernel_rfl)) (by decide) (fun K hK => ?_)
  refine goes_ Tryz.func34 (by kernel_rfl) rfl #[.pointer (some ⟨g397, 0, none⟩), .agg #[.int .i64 t417, .int .i64 t418, .int .i64 t419, .int .i64 t420]] (by rfl) rfl rfl zM ?_
  with_reducible refine (spec_l05Bad.calls g397 t394 t428 t429 t417 t418 t419 t420 t430 t431 t432 t433 t434 t435 w _ ?side1 ?side2 A10.out).mono ?_
  (case side1 => exact zI4 HI397.out NB397_392.out NB397_393.out NB397_410.out NB397_423.out)
  (case side2 => exact zH5 HB.out (IsS85.ge HI397.out) GE392.out GE393.out GE410.out GE423.out)
  rintro e w34 ⟨rfl, hi, hb, hk⟩
  refine ⟨_, rfl, ?_⟩
  refine zA6 (zYk hk BK392.out NB392_397.out) (zYk hk BK393.out NB393_397.out) (zYk hk BK410.out NB410_397.out) (zYk hk BK423.out NB423_397.out) (hb) (hi) ?_
  clear BK392 BK393 BK410 BK423 HB HI397
  intro BK392 BK393 BK410 BK423 HB HI397
  (try clear hb)
  (try clear hb2)
  (try clear hk)
  (try clear hi)
  refine hK.out _ _ ⟨(blk_cell BK410.out 0).trans rfl, (blk_cell BK410.out 1).trans rfl, (blk_cell BK410.out 2).trans rfl, (blk_cell BK410.out 3).trans rfl, (blk_cell BK423.out 0).trans rfl, (blk_cell BK423.out 1).trans rfl, (blk_cell BK423.out 2).trans rfl, (blk_cell BK423.out 3).trans rfl⟩ (fun hHeld => ?_)
  clear hK K
  refine zW (some 28) ?_
  refine one_ (i := 6) (N := none) #[true, true, true, true, true, true, true, false] rfl rfl (one_of HT_.out (by kernel_rfl)) (by decide) (fun K hK => ?_)
  have hs35 : w34.cell? ⟨gb392, 0, none⟩ = some (.int .i64 0) := (blk_cell BK392.out 0).trans rfl
  have hfs35 := blk_frozen BK392.out 0
  have hns35_1 := NB393_392.out
  have hns35_2 := NB410_392.out
  have hns35_3 := NB423_392.out
  have hms35_1 := NB392_393.out
  have hms35_2 := NB392_410.out
  have hms35_3 := NB392_423.out
  have hs36 : w34.cell? ⟨gb392, 1, none⟩ = some (.int .i64 0) := (blk_cell BK392.out 1).trans rfl
  have hfs36 := blk_frozen BK392.out 1
  have hns36_1 := NB393_392.out
  have hns36_2 := NB410_392.out
  have hns36_3 := NB423_392.out
  have hms36_1 := NB392_393.out
  have hms36_2 := NB392_410.out
  have hms36_3 := NB392_423.out
  have hs37 : w34.cell? ⟨gb392, 2, none⟩ = some (.int .i64 0) := (blk_cell BK392.out 2).trans rfl
  have hfs37 := blk_frozen BK392.out 2
  have hns37_1 := NB393_392.out
  have hns37_2 := NB410_392.out
  have hns37_3 := NB423_392.out
  have hms37_1 := NB392_393.out
  have hms37_2 := NB392_410.out
  have hms37_3 := NB392_423.out
  have hs38 : w34.cell? ⟨gb392, 3, none⟩ = some (.int .i64 0) := (blk_cell BK392.out 3).trans rfl
  have hfs38 := blk_frozen BK392.out 3
  have hns38_1 := NB393_392.out
  have hns38_2 := NB410_392.out
  have hns38_3 := NB423_392.out
  have hms38_1 := NB392_393.out
  have hms38_2 := NB392_410.out
  have hms38_3 := NB392_423.out
  refine skip_ (w1 := ?_) (by rfl) rfl ?_ ?_
  rotate_left
  · go_simp
    rfl
  refine hK.out _ _ ⟨((cell_far (p := ⟨gb392, _, none⟩) NB410_392.out _).trans (((cell_far (p := ⟨gb392, _, none⟩) NB410_392.out _).trans (((cell_far (p := ⟨gb392, _, none⟩) NB410_392.out _).trans (((cell_far (p := ⟨gb392, _, none⟩) NB410_392.out _).trans (hHeld.1)))))))), ((cell_far (p := ⟨gb392, _, none⟩) NB410_392.out _).trans (((cell_far (p := ⟨gb392, _, none⟩) NB410_392.out _).trans (((cell_far (p := ⟨gb392, _, none⟩) NB410_392.out _).trans (((cell_far (p := ⟨gb392, _, none⟩) NB410_392.out _).trans (hHeld.2.1)))))))), ((cell_far (p := ⟨gb392, _, none⟩) NB410_392.out _).trans (((cell_far (p := ⟨gb392, _, none⟩) NB410_392.out _).trans (((cell_far (p := ⟨gb392, _, none⟩) NB410_392.out _).trans (((cell_far (p := ⟨gb392, _, none⟩) NB410_392.out _).trans (hHeld.2.2.1)))))))), ((cell_far (p := ⟨gb392, _, none⟩) NB410_392.out _).trans (((cell_far (p := ⟨gb392, _, none⟩) NB410_392.out _).trans (((cell_far (p := ⟨gb392, _, none⟩) NB410_392.out _).trans (((cell_far (p := ⟨gb392, _, none⟩) NB410_392.out _).trans (hHeld.2.2.2.1)))))))), ((cell_far (p := ⟨gb392, _, none⟩) NB423_392.out _).trans (((cell_far (p := ⟨gb392, _, none⟩) NB423_392.out _).trans (((cell_far (p := ⟨gb392, _, none⟩) NB423_392.out _).trans (((cell_far (p := ⟨gb392, _, none⟩) NB423_392.out _).trans (hHeld.2.2.2.2.1)))))))), ((cell_far (p := ⟨gb392, _, none⟩) NB423_392.out _).trans (((cell_far (p := ⟨gb392, _, none⟩) NB423_392.out _).trans (((cell_far (p := ⟨gb392, _, none⟩) NB423_392.out _).trans (((cell_far (p := ⟨gb392, _, none⟩) NB423_392.out _).trans (hHeld.2.2.2.2.2.1)))))))), ((cell_far (p := ⟨gb392, _, none⟩) NB423_392.out _).trans (((cell_far (p := ⟨gb392, _, none⟩) NB423_392.out _).trans (((cell_far (p := ⟨gb392, _, none⟩) NB423_392.out _).trans (((cell_far (p := ⟨gb392, _, none⟩) NB423_392.out _).trans (hHeld.2.2.2.2.2.2.1)))))))), ((cell_far (p := ⟨gb392, _, none⟩) NB423_392.out _).trans (((cell_far (p := ⟨gb392, _, none⟩) NB423_392.out _).trans (((cell_far (p := ⟨gb392, _, none⟩) NB423_392.out _).trans (((cell_far (p := ⟨gb392, _, none⟩) NB423_392.out _).trans (hHeld.2.2.2.2.2.2.2))))))))⟩ (fun hHeld => ?_)
  clear hK K
  refine one_ (i := 7) (N := none) #[true, true, true, true, true, true, true, true] rfl rfl (one_of HT_.out (by kernel_rfl)) (by decide) (fun K hK => ?_)
  have hs39 : w34.cell? ⟨gb393, 0, none⟩ = some (.int .i64 0) := (blk_cell BK393.out 0).trans rfl
  have hfs39 := blk_frozen BK393.out 0
  have hns39_0 := NB392_393.out
  have hns39_2 := NB410_393.out
  have hns39_3 := NB423_393.out
  have hms39_0 := NB393_392.out
  have hms39_2 := NB393_410.out
  have hms39_3 := NB393_423.out
  have hs40 : w34.cell? ⟨gb393, 1, none⟩ = some (.int .i64 0) := (blk_cell BK393.out 1).trans rfl
  have hfs40 := blk_frozen BK393.out 1
  have hns40_0 := NB392_393.out
  have hns40_2 := NB410_393.out
  have hns40_3 := NB423_393.out
  have hms40_0 := NB393_392.out
  have hms40_2 := NB393_410.out
  have hms40_3 := NB393_423.out
  have hs41 : w34.cell? ⟨gb393, 2, none⟩ = some (.int .i64 0) := (blk_cell BK393.out 2).trans rfl
  have hfs41 := blk_frozen BK393.out 2
  have hns41_0 := NB392_393.out
  have hns41_2 := NB410_393.out
  have hns41_3 := NB423_393.out
  have hms41_0 := NB393_392.out
  have hms41_2 := NB393_410.out
  have hms41_3 := NB393_423.out
  have hs42 : w34.cell? ⟨gb393, 3, none⟩ = some (.int .i64 0) := (blk_cell BK393.out 3).trans rfl
  have hfs42 := blk_frozen BK393.out 3
  have hns42_0 := NB392_393.out
  have hns42_2 := NB410_393.out
  have hns42_3 := NB423_393.out
  have hms42_0 := NB393_392.out
  have hms42_2 := NB393_410.out
  have hms42_3 := NB393_423.out
  refine skip_ (w1 := ?_) (by rfl) rfl ?_ ?_
  rotate_left
  · go_simp
    rfl
  refine hK.out _ _ ⟨((cell_far (p := ⟨gb393, _, none⟩) NB410_393.out _).trans (((cell_far (p := ⟨gb393, _, none⟩) NB410_393.out _).trans (((cell_far (p := ⟨gb393, _, none⟩) NB410_393.out _).trans (((cell_far (p := ⟨gb393, _, none⟩) NB410_393.out _).trans (hHeld.1)))))))), ((cell_far (p := ⟨gb393, _, none⟩) NB410_393.out _).trans (((cell_far (p := ⟨gb393, _, none⟩) NB410_393.out _).trans (((cell_far (p := ⟨gb393, _, none⟩) NB410_393.out _).trans (((cell_far (p := ⟨gb393, _, none⟩) NB410_393.out _).trans (hHeld.2.1)))))))), ((cell_far (p := ⟨gb393, _, none⟩) NB410_393.out _).trans (((cell_far (p := ⟨gb393, _, none⟩) NB410_393.out _).trans (((cell_far (p := ⟨gb393, _, none⟩) NB410_393.out _).trans (((cell_far (p := ⟨gb393, _, none⟩) NB410_393.out _).trans (hHeld.2.2.1)))))))), ((cell_far (p := ⟨gb393, _, none⟩) NB410_393.out _).trans (((cell_far (p := ⟨gb393, _, none⟩) NB410_393.out _).trans (((cell_far (p := ⟨gb393, _, none⟩) NB410_393.out _).trans (((cell_far (p := ⟨gb393, _, none⟩) NB410_393.out _).trans (hHeld.2.2.2.1)))))))), ((cell_far (p := ⟨gb393, _, none⟩) NB423_393.out _).trans (((cell_far (p := ⟨gb393, _, none⟩) NB423_393.out _).trans (((cell_far (p := ⟨gb393, _, none⟩) NB423_393.out _).trans (((cell_far (p := ⟨gb393, _, none⟩) NB423_393.out _).trans (hHeld.2.2.2.2.1)))))))), ((cell_far (p := ⟨gb393, _, none⟩) NB423_393.out _).trans (((cell_far (p := ⟨gb393, _, none⟩) NB423_393.out _).trans (((cell_far (p := ⟨gb393, _, none⟩) NB423_393.out _).trans (((cell_far (p := ⟨gb393, _, none⟩) NB423_393.out _).trans (hHeld.2.2.2.2.2.1)))))))), ((cell_far (p := ⟨gb393, _, none⟩) NB423_393.out _).trans (((cell_far (p := ⟨gb393, _, none⟩) NB423_393.out _).trans (((cell_far (p := ⟨gb393, _, none⟩) NB423_393.out _).trans (((cell_far (p := ⟨gb393, _, none⟩) NB423_393.out _).trans (hHeld.2.2.2.2.2.2.1)))))))), ((cell_far (p := ⟨gb393, _, none⟩) NB423_393.out _).trans (((cell_far (p := ⟨gb393, _, none⟩) NB423_393.out _).trans (((cell_far (p := ⟨gb393, _, none⟩) NB423_393.out _).trans (((cell_far (p := ⟨gb393, _, none⟩) NB423_393.out _).trans (hHeld.2.2.2.2.2.2.2))))))))⟩ (fun hHeld => ?_)
  clear hK K
  refine done_ (done_of HT_.out (by kernel_rfl)) ?_
  try go_wp2
  refine bodyPost_ret (results_cc rfl _ _ gb392 gb393 25 25 #[.int .i64 t424, .int .i64 t425, .int .i64 t426, .int .i64 t427] #[.int .i64 t430, .int .i64 t431, .int .i64 t432, .int .i64 t433] (0, 0) (0, 0) _ _ rfl (zQ1 BK392.out NB392_393.out) Tryz.underlying25 rfl (by kernel_rfl) rfl (zQ1 BK393.out NB393_392.out) Tryz.underlying25 rfl (by kernel_rfl)) rfl ?_
  exact ⟨zE, zH5 HB.out (IsS85.ge HI397.out) GE392.out GE393.out GE410.out GE423.out⟩

/-! ### impl_UnionOf: function 18 -/
mutual
def impl_UnionOf.j0 : Nat → Int → Int → Int → Int → Int → Int → Int → Int → Int → Option (Int × Int × Int × Int × Int)
  | 0, _, _, _, _, _, _, _, _, _ => none
  | k + 1, x6, x437000, x437001, x437002, x437003, x438000, x438001, x438002, x438003 => if x6 = 0 then (if 0 ≤ x437000 then (impl_UnionOf.l0 k x437000 x438000 0 x438000 x438001 x438002 x438003 (wrap64 (x437000 + x438000)) x437001 (Go.bits .or .i64 x437002 (shl .i64 x438002 x437000)) (Go.bits .or .i64 x437003 (shl .i64 x438003 x437000))) else (none)) else (some (0, 0, 0, 0, x6))
def impl_UnionOf.l0 : Nat → Int → Int → Int → Int → Int → Int → Int → Int → Int → Int → Int → Option (Int × Int × Int × Int × Int)
  | 0, _, _, _, _, _, _, _, _, _, _, _ => none
  | k + 1, x7, x55, x56, x438000, x438001, x438002, x438003, x450000, x450001, x450002, x450003 => if x56 < x55 then (impl_UnionOf.l1 k x7 x56 x55 x56 x56 0 x438000 x438001 x438002 x438003 x450000 x450001 x450002 x450003) else (some (x450000, x450001, x450002, x450003, 0))
def impl_UnionOf.l1 : Nat → Int → Int → Int → Int → Int → Int → Int → Int → Int → Int → Int → Int → Int → Int → Option (Int × Int × Int × Int × Int)
  | 0, _, _, _, _, _, _, _, _, _, _, _, _, _, _ => none
  | k + 1, x7, x9, x55, x56, x59, x60, x438000, x438001, x438002, x438003, x450000, x450001, x450002, x450003 => if x60 < x59 then ((impl_Field_joins.f x438000 x438001 x438002 x438003 x60 x9).bind fun t450 => (if t450 = true then ((impl_pairs.f (wrap64 (x7 + x9))).bind fun t451 => (if 0 ≤ (wrap64 ((wrap64 (t451 + x7)) + x60)) then (impl_UnionOf.l1 k x7 x9 x55 x56 x59 (wrap64 (x60 + 1)) x438000 x438001 x438002 x438003 x450000 (Go.bits .or .i64 x450001 (shl .i64 1 (wrap64 ((wrap64 (t451 + x7)) + x60)))) x450002 x450003) else (none))) else (impl_UnionOf.l1 k x7 x9 x55 x56 x59 (wrap64 (x60 + 1)) x438000 x438001 x438002 x438003 x450000 x450001 x450002 x450003))) else (impl_UnionOf.l0 k x7 x55 (wrap64 (x56 + 1)) x438000 x438001 x438002 x438003 x450000 x450001 x450002 x450003)
end
def impl_UnionOf.f (k : Nat) (a0_0 : Int) (a0_1 : Int) (a0_2 : Int) (a0_3 : Int) (a1_0 : Int) (a1_1 : Int) (a1_2 : Int) (a1_3 : Int) : Option (Int × Int × Int × Int × Int) := (impl_IsField.f a0_0 a0_1 a0_2 a0_3).bind fun t439 => (if t439 = true then ((impl_IsField.f a1_0 a1_1 a1_2 a1_3).bind fun t440 => ((impl_first.f k (([(⟨t440, 1⟩ : S58), (⟨decide ((wrap64 (a0_0 + a1_0)) ≤ 8), 3⟩ : S58)] : List (S58)))).bind fun t444 => (impl_UnionOf.j0 k t444 a0_0 a0_1 a0_2 a0_3 a1_0 a1_1 a1_2 a1_3))) else ((impl_first.f k (([(⟨false, 1⟩ : S58), (⟨decide ((wrap64 (a0_0 + a1_0)) ≤ 8), 3⟩ : S58)] : List (S58)))).bind fun t448 => (impl_UnionOf.j0 k t448 a0_0 a0_1 a0_2 a0_3 a1_0 a1_1 a1_2 a1_3)))
def impl_UnionOf.T1 : Bool × List (List Nat × List Nat) := (true, [([], []), ([0], [0]), ([1, 1], [1]), ([2], [2]), ([3, 2, 2], [2, 3]), ([2, 4], [2, 4]), ([5], [5]), ([], []), ([7], [7]), ([], []), ([9], [9]), ([8, 10], [8, 10]), ([11], [11]), ([12], [12]), ([6, 13], [6, 13]), ([14, 4], [14]), ([15, 15, 0, 1, 2, 3, 4, 5, 6, 7, 8, 9, 10, 11, 12, 13, 14, 15], [15])])
def impl_UnionOf.B1 : List Nat := [0, 1, 3, 7, 15, 31, 63, 0, 128, 0, 512, 1920, 3968, 8064, 16383, 32767, 65535]
theorem impl_UnionOf.tab1 : rtab .any (opsOf Tryz.f18 1) = impl_UnionOf.T1 := by kernel_rfl
theorem impl_UnionOf.bits1 : waitsOk impl_UnionOf.T1.2 impl_UnionOf.B1 = true := by kernel_rfl
def impl_UnionOf.T5 : Bool × List (List Nat × List Nat) := (true, [([], []), ([], []), ([1], [1]), ([0, 2], [0, 2]), ([], []), ([4], [4]), ([], []), ([6], [6]), ([], []), ([8], [8]), ([], []), ([9, 10], [9, 10]), ([7, 11], [7, 11]), ([], []), ([13], [13]), ([], []), ([15], [15]), ([], []), ([16, 17], [16, 17]), ([14, 18], [14, 18]), ([3, 5, 12, 19], [3, 5, 12, 19]), ([], []), ([21, 20, 0, 1, 2, 3, 4, 5, 6, 7, 8, 9, 10, 11, 12, 13, 14, 15, 16, 17, 18, 19, 20, 21], [20, 21])])
def impl_UnionOf.B5 : List Nat := [0, 0, 2, 7, 0, 16, 0, 64, 0, 256, 0, 1792, 4032, 0, 8192, 0, 32768, 0, 229376, 516096, 1048575, 0, 4194303]
theorem impl_UnionOf.tab5 : rtab .any (opsOf Tryz.f18 5) = impl_UnionOf.T5 := by kernel_rfl
theorem impl_UnionOf.bits5 : waitsOk impl_UnionOf.T5.2 impl_UnionOf.B5 = true := by kernel_rfl
def impl_UnionOf.T13 : Bool × List (List Nat × List Nat) := (true, [([], []), ([0], [0]), ([], []), ([], []), ([2, 3], [2, 3]), ([4], [4]), ([], []), ([5, 6], [5, 6]), ([], []), ([7, 8], [7, 8]), ([9], [9]), ([1, 10], [1, 10]), ([0, 1, 2, 3, 4, 5, 6, 7, 8, 9, 10, 11], []), ([12, 11, 5, 0, 1, 2, 3, 4, 5, 6, 7, 8, 9, 10, 11], [11, 12])])
def impl_UnionOf.B13 : List Nat := [0, 1, 0, 0, 12, 28, 0, 124, 0, 508, 1020, 2047, 4095, 8191]
theorem impl_UnionOf.tab13 : rtab .any (opsOf Tryz.f18 13) = impl_UnionOf.T13 := by kernel_rfl
theorem impl_UnionOf.bits13 : waitsOk impl_UnionOf.T13.2 impl_UnionOf.B13 = true := by kernel_rfl
set_option maxHeartbeats 8000000 in
set_option maxRecDepth 100000 in
theorem impl_UnionOf.calls (k : Nat) (a0_0 : Int) (a0_1 : Int) (a0_2 : Int) (a0_3 : Int) (a1_0 : Int) (a1_1 : Int) (a1_2 : Int) (a1_3 : Int) (r1 : Int) (r2 : Int) (r3 : Int) (r4 : Int) (r5 : Int) (w : World) (h : impl_UnionOf.f k a0_0 a0_1 a0_2 a0_3 a1_0 a1_1 a1_2 a1_3 = some (r1, r2, r3, r4, r5)) :
    Calls Tryz.prog 18 #[.agg #[.int .i64 a0_0, .int .i64 a0_1, .int .i64 a0_2, .int .i64 a0_3], .agg #[.int .i64 a1_0, .int .i64 a1_1, .int .i64 a1_2, .int .i64 a1_3]] w fun e w' => e = .returned (.tuple #[.agg #[.int .i64 r1, .int .i64 r2, .int .i64 r3, .int .i64 r4], .int .i64 r5]) ∧ Below w.heap.size w w' := by
  have hu25 := Tryz.underlying25
  have hu58 := Tryz.underlying58
  have HB := Aside0.mk (Below.refl w.heap.size w)
  have H : ((impl_IsField.f a0_0 a0_1 a0_2 a0_3).bind fun t439 => (if t439 = true then ((impl_IsField.f a1_0 a1_1 a1_2 a1_3).bind fun t440 => ((impl_first.f k (([(⟨t440, 1⟩ : S58), (⟨decide ((wrap64 (a0_0 + a1_0)) ≤ 8), 3⟩ : S58)] : List (S58)))).bind fun t444 => (impl_UnionOf.j0 k t444 a0_0 a0_1 a0_2 a0_3 a1_0 a1_1 a1_2 a1_3))) else ((impl_first.f k (([(⟨false, 1⟩ : S58), (⟨decide ((wrap64 (a0_0 + a1_0)) ≤ 8), 3⟩ : S58)] : List (S58)))).bind fun t448 => (impl_UnionOf.j0 k t448 a0_0 a0_1 a0_2 a0_3 a1_0 a1_1 a1_2 a1_3)))) = some (r1, r2, r3, r4, r5) := h
  clear h
  have HC3 := Aside0.mk H
  clear H
  go_enter Tryz.func18, Tryz.ntmps18
  go_upto_region 1 with (first | ((with_reducible refine gate_dst (N := 2) rfl ?_); refine zX 2 #[.int .i64 a0_0, .int .i64 a0_1, .int .i64 a0_2, .int .i64 a0_3] 25 ?_; intro gb436 hg w4 hbox hb; refine zA4 (below_step (zH HB.out) hb) (hbox) ((zS hg (below_size (zH HB.out)) : w.heap.size ≤ gb436)) ((zS hg (below_size (zH HB.out)) : w.heap.size ≤ gb436)) ?_; clear HB; intro HB BK436 GW436 GE436; clear hb hbox hg) | ((with_reducible refine gate_dst (N := 3) rfl ?_); refine zX 3 #[.int .i64 a1_0, .int .i64 a1_1, .int .i64 a1_2, .int .i64 a1_3] 25 ?_; intro gb437 hg w5 hbox hb; refine zA7 (zY BK436.out hb) (below_step (zH1 HB.out GE436.out) hb) (hbox) ((zS hg (below_size (zH1 HB.out GE436.out)) : w.heap.size ≤ gb437)) ((zS hg (below_size (zH1 HB.out GE436.out)) : w.heap.size ≤ gb437)) ((zl hg (blk_lt (g := gb436) (o := .cells #[.int .i64 a0_0, .int .i64 a0_1, .int .i64 a0_2, .int .i64 a0_3] 25 (0, 0)) (zB BK436.out)) : gb436 ≠ gb437)) ((zg hg (blk_lt (g := gb436) (o := .cells #[.int .i64 a0_0, .int .i64 a0_1, .int .i64 a0_2, .int .i64 a0_3] 25 (0, 0)) (zB BK436.out)) : gb437 ≠ gb436)) ?_; clear BK436 HB; intro BK436 HB BK437 GW437 GE437 NB436_437 NB437_436; clear hb hbox hg) | ((with_reducible refine gate_dst (N := 4) rfl ?_); refine zX 4 #[.int .i64 0, .int .i64 0, .int .i64 0, .int .i64 0] 25 ?_; intro gb438 hg w6 hbox hb; refine zA10 (zY BK436.out hb) (zY BK437.out hb) (below_step (zH2 HB.out GE436.out GE437.out) hb) (hbox) ((zS hg (below_size (zH2 HB.out GE436.out GE437.out)) : w.heap.size ≤ gb438)) ((zS hg (below_size (zH2 HB.out GE436.out GE437.out)) : w.heap.size ≤ gb438)) ((zl hg (blk_lt (g := gb436) (o := .cells #[.int .i64 a0_0, .int .i64 a0_1, .int .i64 a0_2, .int .i64 a0_3] 25 (0, 0)) (zB BK436.out)) : gb436 ≠ gb438)) ((zg hg (blk_lt (g := gb436) (o := .cells #[.int .i64 a0_0, .int .i64 a0_1, .int .i64 a0_2, .int .i64 a0_3] 25 (0, 0)) (zB BK436.out)) : gb438 ≠ gb436)) ((zl hg (blk_lt (g := gb437) (o := .cells #[.int .i64 a1_0, .int .i64 a1_1, .int .i64 a1_2, .int .i64 a1_3] 25 (0, 0)) (zB BK437.out)) : gb437 ≠ gb438)) ((zg hg (blk_lt (g := gb437) (o := .cells #[.int .i64 a1_0, .int .i64 a1_1, .int .i64 a1_2, .int .i64 a1_3] 25 (0, 0)) (zB BK437.out)) : gb438 ≠ gb437)) ?_; clear BK436 BK437 HB; intro BK436 BK437 HB BK438 GW438 GE438 NB436_438 NB438_436 NB437_438 NB438_437; clear hb hbox hg))
  (try simp only [Act.put, List.setIfInBounds_toArray, List.set_cons_zero, List.set_cons_succ])
  go_cut [6] (fun v6 wc => ∃ (kq : Nat) (x6_2 : Int), v6 = .int .i64 x6_2 ∧ Aside0 (impl_UnionOf.j0 kq x6_2 a0_0 a0_1 a0_2 a0_3 a1_0 a1_1 a1_2 a1_3 = some (r1, r2, r3, r4, r5)) ∧ Aside0 (kq ≤ k) ∧ Aside0 (wc.heap[gb436]? = some (.cells #[.int .i64 a0_0, .int .i64 a0_1, .int .i64 a0_2, .int .i64 a0_3] 25 (0, 0))) ∧ Aside0 (wc.heap[gb437]? = some (.cells #[.int .i64 a1_0, .int .i64 a1_1, .int .i64 a1_2, .int .i64 a1_3] 25 (0, 0))) ∧ Aside0 (wc.heap[gb438]? = some (.cells #[.int .i64 0, .int .i64 0, .int .i64 0, .int .i64 0] 25 (0, 0))) ∧ Aside0 (Below w.heap.size w wc))
  case first =>
    have H := HC3.out
    clear HC3
    obtain ⟨t439, A7, H⟩ := zb H
    by_cases c8 : t439 = true
    · subst c8
      have H1 : ((impl_IsField.f a1_0 a1_1 a1_2 a1_3).bind fun t440 => ((impl_first.f k (([(⟨t440, 1⟩ : S58), (⟨decide ((wrap64 (a0_0 + a1_0)) ≤ 8), 3⟩ : S58)] : List (S58)))).bind fun t444 => (impl_UnionOf.j0 k t444 a0_0 a0_1 a0_2 a0_3 a1_0 a1_1 a1_2 a1_3))) = some (r1, r2, r3, r4, r5) := by rw [if_pos rfl] at H; exact H
      clear H
      have H := H1
      clear H1
      obtain ⟨t440, A9, H⟩ := zb H
      obtain ⟨y441, hy441⟩ : ∃ y_ : List (S58), y_ = (([(⟨t440, 1⟩ : S58), (⟨decide ((wrap64 (a0_0 + a1_0)) ≤ 8), 3⟩ : S58)] : List (S58))) := ⟨_, rfl⟩
      replace H : ((impl_first.f k y441).bind fun t444 => (impl_UnionOf.j0 k t444 a0_0 a0_1 a0_2 a0_3 a1_0 a1_1 a1_2 a1_3)) = some (r1, r2, r3, r4, r5) := by first | (rw [hy441]; with_reducible exact H) | (have H2_ := (Option.bind_some _ _).symm.trans H; rw [hy441]; with_reducible exact H2_) | (have H2_ := (Option.bind_some _ _).symm.trans H; with_reducible exact H2_) | with_reducible exact H | (rw [hy441]; exact H) | exact H
      have Ny441 := Aside0.mk hy441
      clear hy441
      obtain ⟨t444, A10, H⟩ := zb H
      have H' := Aside0.mk H
      clear H
      try go_wp2
      refine zA4 (blk_drew BK436.out) (blk_drew BK437.out) (blk_drew BK438.out) (below_drew1 HB.out) ?_
      clear BK436 BK437 BK438 HB
      intro BK436 BK437 BK438 HB
      refine start_ (n := 17) (S := fun w' => w'.cell? ⟨gb436, 0, none⟩ = some (.int .i64 a0_0) ∧ w'.cell? ⟨gb436, 1, none⟩ = some (.int .i64 a0_1) ∧ w'.cell? ⟨gb436, 2, none⟩ = some (.int .i64 a0_2) ∧ w'.cell? ⟨gb436, 3, none⟩ = some (.int .i64 a0_3) ∧ w'.cell? ⟨gb437, 0, none⟩ = some (.int .i64 a1_0) ∧ w'.cell? ⟨gb437, 1, none⟩ = some (.int .i64 a1_1) ∧ w'.cell? ⟨gb437, 2, none⟩ = some (.int .i64 a1_2) ∧ w'.cell? ⟨gb437, 3, none⟩ = some (.int .i64 a1_3)) (ds := []) #[false, false, false, false, false, false, false, false, false, false, false, false, false, false, false, false, false] (by kernel_rfl) rfl rfl ⟨(blk_cell BK436.out 0).trans rfl, (blk_cell BK436.out 1).trans rfl, (blk_cell BK436.out 2).trans rfl, (blk_cell BK436.out 3).trans rfl, (blk_cell BK437.out 0).trans rfl, (blk_cell BK437.out 1).trans rfl, (blk_cell BK437.out 2).trans rfl, (blk_cell BK437.out 3).trans rfl⟩ (fun hHeld => ?_); refine with_tabW impl_UnionOf.tab1 impl_UnionOf.bits1 (fun HT_ HW_ => ?_)
      generalize w6.drew = w11 at BK436 BK437 BK438 HB hHeld ⊢
      refine zP HT_ 7 (some 18) rfl rfl ?_
      refine zP HT_ 9 (some 20) rfl rfl ?_
      refine zT HT_ HW_ hHeld 0 (some 11) rfl rfl ?_
      refine zT HT_ HW_ hHeld 8 (some 19) rfl rfl ?_
      refine zT HT_ HW_ hHeld 10 (some 21) rfl rfl ?_
      refine zP HT_ 11 (some 22) rfl rfl ?_
      refine zP HT_ 12 (some 23) rfl rfl ?_
      refine zP HT_ 13 (some 24) rfl rfl ?_
      refine one_ (i := 1) (N := some 12) #[true, true, false, false, false, false, false, true, true, true, true, true, true, true, false, false, false] rfl rfl (one_of HT_.out (by kernel_rfl)) (by decide) (fun K hK => ?_)
      refine goes_ Tryz.func11 (by kernel_rfl) rfl #[.agg #[.int .i64 a0_0, .int .i64 a0_1, .int .i64 a0_2, .int .i64 a0_3]] (by rfl) rfl rfl zM ?_
      with_reducible refine (impl_IsField.calls a0_0 a0_1 a0_2 a0_3 true _ A7.out).mono ?_
      rintro e w12 ⟨rfl, hb⟩
      refine ⟨_, rfl, ?_⟩
      refine zA4 (zY BK436.out hb) (zY BK437.out hb) (zY BK438.out hb) (below_step (zH3 HB.out GE436.out GE437.out GE438.out) hb) ?_
      clear BK436 BK437 BK438 HB
      intro BK436 BK437 BK438 HB
      (try clear hb)
      (try clear hb2)
      (try clear hk)
      (try clear hi)
      refine hK.out _ _ ⟨(blk_cell BK436.out 0).trans rfl, (blk_cell BK436.out 1).trans rfl, (blk_cell BK436.out 2).trans rfl, (blk_cell BK436.out 3).trans rfl, (blk_cell BK437.out 0).trans rfl, (blk_cell BK437.out 1).trans rfl, (blk_cell BK437.out 2).trans rfl, (blk_cell BK437.out 3).trans rfl⟩ (fun hHeld => ?_)
      clear hK K
      refine zW (some 12) ?_
      refine zP HT_ 2 (some 13) rfl rfl ?_
      refine zT HT_ HW_ hHeld 3 (some 14) rfl rfl ?_
      refine one_ (i := 4) (N := some 15) #[true, true, true, true, true, false, false, true, true, true, true, true, true, true, false, false, false] rfl rfl (one_of HT_.out (by kernel_rfl)) (by decide) (fun K hK => ?_)
      refine goes_ Tryz.func11 (by kernel_rfl) rfl #[.agg #[.int .i64 a1_0, .int .i64 a1_1, .int .i64 a1_2, .int .i64 a1_3]] (by rfl) rfl rfl zM ?_
      with_reducible refine (impl_IsField.calls a1_0 a1_1 a1_2 a1_3 t440 _ A9.out).mono ?_
      rintro e w13 ⟨rfl, hb⟩
      refine ⟨_, rfl, ?_⟩
      refine zA4 (zY BK436.out hb) (zY BK437.out hb) (zY BK438.out hb) (below_step (zH3 HB.out GE436.out GE437.out GE438.out) hb) ?_
      clear BK436 BK437 BK438 HB
      intro BK436 BK437 BK438 HB
      (try clear hb)
      (try clear hb2)
      (try clear hk)
      (try clear hi)
      refine hK.out _ _ ⟨(blk_cell BK436.out 0).trans rfl, (blk_cell BK436.out 1).trans rfl, (blk_cell BK436.out 2).trans rfl, (blk_cell BK436.out 3).trans rfl, (blk_cell BK437.out 0).trans rfl, (blk_cell BK437.out 1).trans rfl, (blk_cell BK437.out 2).trans rfl, (blk_cell BK437.out 3).trans rfl⟩ (fun hHeld => ?_)
      clear hK K
      refine zW (some 15) ?_
      refine zP HT_ 5 (some 16) rfl rfl ?_
      refine zP HT_ 6 (some 17) rfl rfl ?_
      refine one_ (i := 14) (N := some 25) #[true, true, true, true, true, true, true, true, true, true, true, true, true, true, true, false, false] rfl rfl (one_of HT_.out (by kernel_rfl)) (by decide) (fun K hK => ?_)
      refine Kd.R_lit_step k58 _ 58 ?hg (N := 25) ?hd (xs := ([(⟨t440, 1⟩ : S58), (⟨decide ((wrap64 (a0_0 + a1_0)) ≤ 8), 3⟩ : S58)] : List (S58))) (inner := [.bool t440, .int .i64 1, .bool (decide ((wrap64 (a0_0 + a1_0)) ≤ 8)), .int .i64 3]) (ok := fun _ => True) (okp := fun _ => True) ?hr ?hp (fun _ hk => hk) trivial (Below.refl _ _) (Nat.le_refl _) (by simp) ?_; (case hd => rfl); (case hg => rfl); (case hr => first | (go_simp; done) | (go_simp; rfl)); (case hp => exact (Reps.c2 (show Kd.M k58 _ _ _ (⟨t440, 1⟩ : S58) [.bool t440, .int .i64 1] from (k58_mkM _ _ _ (⟨t440, 1⟩ : S58) )) (Reps.c2 (show Kd.M k58 _ _ _ (⟨decide ((wrap64 (a0_0 + a1_0)) ≤ 8), 3⟩ : S58) [.bool (decide ((wrap64 (a0_0 + a1_0)) ≤ 8)), .int .i64 3] from (k58_mkM _ _ _ (⟨decide ((wrap64 (a0_0 + a1_0)) ≤ 8), 3⟩ : S58) )) (Reps.none _ _))))
      intro v442 w14 ho15 hb hg_ hnew_
      clear hg_ hnew_
      (first | rw [← Ny441.out] at ho15 | (simp only [Int.reduceToNat] at ho15; rw [← Ny441.out] at ho15))
      refine zA5 (Kd.R_lower ho15 (below_size (zH3 HB.out GE436.out GE437.out GE438.out))) (zY BK436.out hb) (zY BK437.out hb) (zY BK438.out hb) (below_step (zH3 HB.out GE436.out GE437.out GE438.out) hb) ?_
      clear BK436 BK437 BK438 HB
      intro HO443 BK436 BK437 BK438 HB
      clear hb ho15
      obtain ⟨Ao16, co16, eo16⟩ := Kd.R_slice HO443.out
      (first | subst eo16 | (injection eo16 with f1_ f2_ f3_; have f4_ := f1_.symm; have f5_ := f3_.symm; clear f1_ f2_ f3_; subst f4_; subst f5_))
      refine hK.out _ _ ⟨(blk_cell BK436.out 0).trans rfl, (blk_cell BK436.out 1).trans rfl, (blk_cell BK436.out 2).trans rfl, (blk_cell BK436.out 3).trans rfl, (blk_cell BK437.out 0).trans rfl, (blk_cell BK437.out 1).trans rfl, (blk_cell BK437.out 2).trans rfl, (blk_cell BK437.out 3).trans rfl⟩ (fun hHeld => ?_)
      clear hK K
      refine zW (some 25) ?_
      refine one_ (i := 15) (N := some 26) #[true, true, true, true, true, true, true, true, true, true, true, true, true, true, true, true, false] rfl rfl (one_of HT_.out (by kernel_rfl)) (by decide) (fun K hK => ?_)
      refine goes_ Tryz.func35 (by kernel_rfl) rfl #[.slice Ao16 y441.length co16] (by rfl) rfl rfl zM ?_
      with_reducible refine (impl_first.calls k _ _ y441 t444 _ ?side1 ?side2 A10.out).mono ?_
      (case side1 => repeat (first | exact (Kd.R_reads' HO443.out).2.2 | (with_reducible refine Kd.C_alloc ?_ _) | (with_reducible refine Kd.C_drewN ?_ _) | (with_reducible refine Kd.C_drew ?_)))
      (case side2 => exact (Kd.R_reads' HO443.out).2.1)
      rintro e w17 ⟨rfl, hb⟩
      refine ⟨_, rfl, ?_⟩
      refine zA5 (Kd.R_below (zR HO443.out) hb) (zY BK436.out hb) (zY BK437.out hb) (zY BK438.out hb) (below_step (zH3 HB.out GE436.out GE437.out GE438.out) hb) ?_
      clear HO443 BK436 BK437 BK438 HB
      intro HO443 BK436 BK437 BK438 HB
      (try clear hb)
      (try clear hb2)
      (try clear hk)
      (try clear hi)
      refine hK.out _ _ ⟨(blk_cell BK436.out 0).trans rfl, (blk_cell BK436.out 1).trans rfl, (blk_cell BK436.out 2).trans rfl, (blk_cell BK436.out 3).trans rfl, (blk_cell BK437.out 0).trans rfl, (blk_cell BK437.out 1).trans rfl, (blk_cell BK437.out 2).trans rfl, (blk_cell BK437.out 3).trans rfl⟩ (fun hHeld => ?_)
      clear hK K
      refine zW (some 26) ?_
      refine zP HT_ 16 (some 6) rfl rfl ?_
      refine done_ (done_of HT_.out (by kernel_rfl)) ?_
      try go_wp2
      go_meet
      case rel => exact ⟨_, (t444), (zF), H', ⟨by first | omega | exact Nat.le_refl _⟩, ⟨zB BK436.out⟩, ⟨zB BK437.out⟩, ⟨zB BK438.out⟩, ⟨zH3 HB.out GE436.out GE437.out GE438.out⟩⟩
    · replace c8 := Bool.eq_false_iff.mpr c8
      subst c8
      have H1 : ((impl_first.f k (([(⟨false, 1⟩ : S58), (⟨decide ((wrap64 (a0_0 + a1_0)) ≤ 8), 3⟩ : S58)] : List (S58)))).bind fun t448 => (impl_UnionOf.j0 k t448 a0_0 a0_1 a0_2 a0_3 a1_0 a1_1 a1_2 a1_3)) = some (r1, r2, r3, r4, r5) := by rw [if_neg (show ¬ (false = true) by decide)] at H; exact H
      clear H
      have H := H1
      clear H1
      obtain ⟨y445, hy445⟩ : ∃ y_ : List (S58), y_ = (([(⟨false, 1⟩ : S58), (⟨decide ((wrap64 (a0_0 + a1_0)) ≤ 8), 3⟩ : S58)] : List (S58))) := ⟨_, rfl⟩
      replace H : ((impl_first.f k y445).bind fun t448 => (impl_UnionOf.j0 k t448 a0_0 a0_1 a0_2 a0_3 a1_0 a1_1 a1_2 a1_3)) = some (r1, r2, r3, r4, r5) := by first | (rw [hy445]; with_reducible exact H) | (have H2_ := (Option.bind_some _ _).symm.trans H; rw [hy445]; with_reducible exact H2_) | (have H2_ := (Option.bind_some _ _).symm.trans H; with_reducible exact H2_) | with_reducible exact H | (rw [hy445]; exact H) | exact H
      have Ny445 := Aside0.mk hy445
      clear hy445
      obtain ⟨t448, A18, H⟩ := zb H
      have H' := Aside0.mk H
      clear H
      try go_wp2
      refine zA4 (blk_drew BK436.out) (blk_drew BK437.out) (blk_drew BK438.out) (below_drew1 HB.out) ?_
      clear BK436 BK437 BK438 HB
      intro BK436 BK437 BK438 HB
      refine start_ (n := 17) (S := fun w' => w'.cell? ⟨gb436, 0, none⟩ = some (.int .i64 a0_0) ∧ w'.cell? ⟨gb436, 1, none⟩ = some (.int .i64 a0_1) ∧ w'.cell? ⟨gb436, 2, none⟩ = some (.int .i64 a0_2) ∧ w'.cell? ⟨gb436, 3, none⟩ = some (.int .i64 a0_3) ∧ w'.cell? ⟨gb437, 0, none⟩ = some (.int .i64 a1_0) ∧ w'.cell? ⟨gb437, 1, none⟩ = some (.int .i64 a1_1) ∧ w'.cell? ⟨gb437, 2, none⟩ = some (.int .i64 a1_2) ∧ w'.cell? ⟨gb437, 3, none⟩ = some (.int .i64 a1_3)) (ds := []) #[false, false, false, false, false, false, false, false, false, false, false, false, false, false, false, false, false] (by kernel_rfl) rfl rfl ⟨(blk_cell BK436.out 0).trans rfl, (blk_cell BK436.out 1).trans rfl, (blk_cell BK436.out 2).trans rfl, (blk_cell BK436.out 3).trans rfl, (blk_cell BK437.out 0).trans rfl, (blk_cell BK437.out 1).trans rfl, (blk_cell BK437.out 2).trans rfl, (blk_cell BK437.out 3).trans rfl⟩ (fun hHeld => ?_); refine with_tabW impl_UnionOf.tab1 impl_UnionOf.bits1 (fun HT_ HW_ => ?_)
      generalize w6.drew = w19 at BK436 BK437 BK438 HB hHeld ⊢
      refine zP HT_ 7 (some 18) rfl rfl ?_
      refine zP HT_ 9 (some 20) rfl rfl ?_
      refine zT HT_ HW_ hHeld 0 (some 11) rfl rfl ?_
      refine zT HT_ HW_ hHeld 8 (some 19) rfl rfl ?_
      refine zT HT_ HW_ hHeld 10 (some 21) rfl rfl ?_
      refine zP HT_ 11 (some 22) rfl rfl ?_
      refine zP HT_ 12 (some 23) rfl rfl ?_
      refine zP HT_ 13 (some 24) rfl rfl ?_
      refine one_ (i := 1) (N := some 12) #[true, true, false, false, false, false, false, true, true, true, true, true, true, true, false, false, false] rfl rfl (one_of HT_.out (by kernel_rfl)) (by decide) (fun K hK => ?_)
      refine goes_ Tryz.func11 (by kernel_rfl) rfl #[.agg #[.int .i64 a0_0, .int .i64 a0_1, .int .i64 a0_2, .int .i64 a0_3]] (by rfl) rfl rfl zM ?_
      with_reducible refine (impl_IsField.calls a0_0 a0_1 a0_2 a0_3 false _ A7.out).mono ?_
      rintro e w20 ⟨rfl, hb⟩
      refine ⟨_, rfl, ?_⟩
      refine zA4 (zY BK436.out hb) (zY BK437.out hb) (zY BK438.out hb) (below_step (zH3 HB.out GE436.out GE437.out GE438.out) hb) ?_
      clear BK436 BK437 BK438 HB
      intro BK436 BK437 BK438 HB
      (try clear hb)
      (try clear hb2)
      (try clear hk)
      (try clear hi)
      refine hK.out _ _ ⟨(blk_cell BK436.out 0).trans rfl, (blk_cell BK436.out 1).trans rfl, (blk_cell BK436.out 2).trans rfl, (blk_cell BK436.out 3).trans rfl, (blk_cell BK437.out 0).trans rfl, (blk_cell BK437.out 1).trans rfl, (blk_cell BK437.out 2).trans rfl, (blk_cell BK437.out 3).trans rfl⟩ (fun hHeld => ?_)
      clear hK K
      refine zW (some 12) ?_
      refine zP HT_ 2 (some 13) rfl rfl ?_
      refine zU HT_ 3 (some 14) rfl rfl ?_
      refine zU HT_ 4 (some 15) rfl rfl ?_
      refine zP HT_ 5 (some 16) rfl rfl ?_
      refine zP HT_ 6 (some 17) rfl rfl ?_
      refine one_ (i := 14) (N := some 25) #[true, true, true, true, true, true, true, true, true, true, true, true, true, true, true, false, false] rfl rfl (one_of HT_.out (by kernel_rfl)) (by decide) (fun K hK => ?_)
      refine Kd.R_lit_step k58 _ 58 ?hg (N := 25) ?hd (xs := ([(⟨false, 1⟩ : S58), (⟨decide ((wrap64 (a0_0 + a1_0)) ≤ 8), 3⟩ : S58)] : List (S58))) (inner := [.bool false, .int .i64 1, .bool (decide ((wrap64 (a0_0 + a1_0)) ≤ 8)), .int .i64 3]) (ok := fun _ => True) (okp := fun _ => True) ?hr ?hp (fun _ hk => hk) trivial (Below.refl _ _) (Nat.le_refl _) (by simp) ?_; (case hd => rfl); (case hg => rfl); (case hr => first | (go_simp; done) | (go_simp; rfl)); (case hp => exact (Reps.c2 (show Kd.M k58 _ _ _ (⟨false, 1⟩ : S58) [.bool false, .int .i64 1] from (k58_mkM _ _ _ (⟨false, 1⟩ : S58) )) (Reps.c2 (show Kd.M k58 _ _ _ (⟨decide ((wrap64 (a0_0 + a1_0)) ≤ 8), 3⟩ : S58) [.bool (decide ((wrap64 (a0_0 + a1_0)) ≤ 8)), .int .i64 3] from (k58_mkM _ _ _ (⟨decide ((wrap64 (a0_0 + a1_0)) ≤ 8), 3⟩ : S58) )) (Reps.none _ _))))
      intro v446 w21 ho22 hb hg_ hnew_
      clear hg_ hnew_
      (first | rw [← Ny445.out] at ho22 | (simp only [Int.reduceToNat] at ho22; rw [← Ny445.out] at ho22))
      refine zA5 (Kd.R_lower ho22 (below_size (zH3 HB.out GE436.out GE437.out GE438.out))) (zY BK436.out hb) (zY BK437.out hb) (zY BK438.out hb) (below_step (zH3 HB.out GE436.out GE437.out GE438.out) hb) ?_
      clear BK436 BK437 BK438 HB
      intro HO447 BK436 BK437 BK438 HB
      clear hb ho22
      obtain ⟨Ao23, co23, eo23⟩ := Kd.R_slice HO447.out
      (first | subst eo23 | (injection eo23 with f1_ f2_ f3_; have f4_ := f1_.symm; have f5_ := f3_.symm; clear f1_ f2_ f3_; subst f4_; subst f5_))
      refine hK.out _ _ ⟨(blk_cell BK436.out 0).trans rfl, (blk_cell BK436.out 1).trans rfl, (blk_cell BK436.out 2).trans rfl, (blk_cell BK436.out 3).trans rfl, (blk_cell BK437.out 0).trans rfl, (blk_cell BK437.out 1).trans rfl, (blk_cell BK437.out 2).trans rfl, (blk_cell BK437.out 3).trans rfl⟩ (fun hHeld => ?_)
      clear hK K
      refine zW (some 25) ?_
      refine one_ (i := 15) (N := some 26) #[true, true, true, true, true, true, true, true, true, true, true, true, true, true, true, true, false] rfl rfl (one_of HT_.out (by kernel_rfl)) (by decide) (fun K hK => ?_)
      refine goes_ Tryz.func35 (by kernel_rfl) rfl #[.slice Ao23 y445.length co23] (by rfl) rfl rfl zM ?_
      with_reducible refine (impl_first.calls k _ _ y445 t448 _ ?side1 ?side2 A18.out).mono ?_
      (case side1 => repeat (first | exact (Kd.R_reads' HO447.out).2.2 | (with_reducible refine Kd.C_alloc ?_ _) | (with_reducible refine Kd.C_drewN ?_ _) | (with_reducible refine Kd.C_drew ?_)))
      (case side2 => exact (Kd.R_reads' HO447.out).2.1)
      rintro e w24 ⟨rfl, hb⟩
      refine ⟨_, rfl, ?_⟩
      refine zA5 (Kd.R_below (zR HO447.out) hb) (zY BK436.out hb) (zY BK437.out hb) (zY BK438.out hb) (below_step (zH3 HB.out GE436.out GE437.out GE438.out) hb) ?_
      clear HO447 BK436 BK437 BK438 HB
      intro HO447 BK436 BK437 BK438 HB
      (try clear hb)
      (try clear hb2)
      (try clear hk)
      (try clear hi)
      refine hK.out _ _ ⟨(blk_cell BK436.out 0).trans rfl, (blk_cell BK436.out 1).trans rfl, (blk_cell BK436.out 2).trans rfl, (blk_cell BK436.out 3).trans rfl, (blk_cell BK437.out 0).trans rfl, (blk_cell BK437.out 1).trans rfl, (blk_cell BK437.out 2).trans rfl, (blk_cell BK437.out 3).trans rfl⟩ (fun hHeld => ?_)
      clear hK K
      refine zW (some 26) ?_
      refine zP HT_ 16 (some 6) rfl rfl ?_
      refine done_ (done_of HT_.out (by kernel_rfl)) ?_
      try go_wp2
      go_meet
      case rel => exact ⟨_, (t448), (zF), H', ⟨by first | omega | exact Nat.le_refl _⟩, ⟨zB BK436.out⟩, ⟨zB BK437.out⟩, ⟨zB BK438.out⟩, ⟨zH3 HB.out GE436.out GE437.out GE438.out⟩⟩
  case rest =>
    clear HC3
    try clear c1
    try clear c2
    try clear p2
    try clear c3
    try clear p6
    try clear c8
    try clear c11
    try clear c18
    obtain ⟨kq, x6_2, rfl, HA, HJ2, BK436, BK437, BK438, HB⟩ := hcut
    cases kq with
    | zero => exact absurd HA.out (by simp [impl_UnionOf.j0])
    | succ kj2 =>
      have H := HA.out
      clear HA
      simp only [impl_UnionOf.j0] at H
      by_cases c25 : x6_2 = 0
      · rw [if_pos c25] at H
        have c25b0 := zq1 c25
        have c25b1 := zq2 c25
        clear c25
        by_cases c26 : 0 ≤ a0_0
        · rw [if_pos c26] at H
          have c26b0 := eq_true c26
          have c26b1 := decide_eq_true c26
          clear c26
          obtain ⟨ji27, hji27⟩ := zj (shl .i64 a1_2 a0_0)
          (first | rw [hji27] at H | simp only [hji27] at H)
          have hji27_ : (IntKind.i64.wrap (a1_2 * 2 ^ min a0_0.toNat 64)) = ji27 := hji27
          have hji27z : a0_0 ≤ 64 → (IntKind.i64.wrap (a1_2 * 2 ^ a0_0.toNat)) = ji27 := shl_small hji27
          have hji27y : (wrap64 (a1_2 * 2 ^ min a0_0.toNat 64)) = ji27 := (i64_w _).symm.trans hji27_
          have hji27x : a0_0 ≤ 64 → (wrap64 (a1_2 * 2 ^ a0_0.toNat)) = ji27 := fun h_ => (i64_w _).symm.trans (hji27z h_)
          have c28b0 := eq_true (of_decide_eq_true (by first | (with_reducible assumption) | assumption) : 0 ≤ a0_0)
          obtain ⟨ji29, hji29⟩ := zj (shl .i64 a1_3 a0_0)
          (first | rw [hji29] at H | simp only [hji29] at H)
          have hji29_ : (IntKind.i64.wrap (a1_3 * 2 ^ min a0_0.toNat 64)) = ji29 := hji29
          have hji29z : a0_0 ≤ 64 → (IntKind.i64.wrap (a1_3 * 2 ^ a0_0.toNat)) = ji29 := shl_small hji29
          have hji29y : (wrap64 (a1_3 * 2 ^ min a0_0.toNat 64)) = ji29 := (i64_w _).symm.trans hji29_
          have hji29x : a0_0 ≤ 64 → (wrap64 (a1_3 * 2 ^ a0_0.toNat)) = ji29 := fun h_ => (i64_w _).symm.trans (hji29z h_)
          have H' := Aside0.mk H
          clear H
          have hnb30 := NB436_437.out
          have hnc30 := NB437_436.out
          have hnb31 := NB436_438.out
          have hnc31 := NB438_436.out
          obtain ⟨hcz32_0, hcz32_1, hcz32_2, hcz32_3⟩ := zc4 BK436
          obtain ⟨hfz32_0, hfz32_1, hfz32_2, hfz32_3⟩ := zf4 BK436
          try go_wp2
          refine zA4 (blk_drew BK436.out) (blk_drew BK437.out) (blk_drew BK438.out) (below_drew1 HB.out) ?_
          clear BK436 BK437 BK438 HB
          intro BK436 BK437 BK438 HB
          refine start_ (n := 23) (S := fun w' => w'.cell? ⟨gb437, 0, none⟩ = some (.int .i64 a1_0) ∧ w'.cell? ⟨gb437, 1, none⟩ = some (.int .i64 a1_1) ∧ w'.cell? ⟨gb437, 2, none⟩ = some (.int .i64 a1_2) ∧ w'.cell? ⟨gb437, 3, none⟩ = some (.int .i64 a1_3) ∧ w'.cell? ⟨gb436, 0, none⟩ = some (.int .i64 a0_0) ∧ w'.cell? ⟨gb436, 1, none⟩ = some (.int .i64 a0_1) ∧ w'.cell? ⟨gb436, 2, none⟩ = some (.int .i64 a0_2) ∧ w'.cell? ⟨gb436, 3, none⟩ = some (.int .i64 a0_3)) (ds := []) #[false, false, false, false, false, false, false, false, false, false, false, false, false, false, false, false, false, false, false, false, false, false, false] (by kernel_rfl) rfl rfl ⟨(blk_cell BK437.out 0).trans rfl, (blk_cell BK437.out 1).trans rfl, (blk_cell BK437.out 2).trans rfl, (blk_cell BK437.out 3).trans rfl, (blk_cell BK436.out 0).trans rfl, (blk_cell BK436.out 1).trans rfl, (blk_cell BK436.out 2).trans rfl, (blk_cell BK436.out 3).trans rfl⟩ (fun hHeld => ?_); refine with_tabW impl_UnionOf.tab5 impl_UnionOf.bits5 (fun HT_ HW_ => ?_)
          generalize wc.drew = w33 at BK436 BK437 BK438 HB hHeld ⊢
          refine zP HT_ 0 (some 33) rfl rfl ?_
          refine zP HT_ 1 (some 34) rfl rfl ?_
          refine zP HT_ 4 (some 37) rfl rfl ?_
          refine zP HT_ 6 (some 39) rfl rfl ?_
          refine zP HT_ 8 (some 41) rfl rfl ?_
          refine zP HT_ 10 (some 43) rfl rfl ?_
          refine zP HT_ 13 (some 46) rfl rfl ?_
          refine zP HT_ 15 (some 48) rfl rfl ?_
          refine zP HT_ 17 (some 50) rfl rfl ?_
          refine zT HT_ HW_ hHeld 2 (some 35) rfl rfl ?_
          refine zP HT_ 3 (some 36) rfl rfl ?_
          refine zT HT_ HW_ hHeld 5 (some 38) rfl rfl ?_
          refine zT HT_ HW_ hHeld 7 (some 40) rfl rfl ?_
          refine zT HT_ HW_ hHeld 9 (some 42) rfl rfl ?_
          refine zP HT_ 11 (some 44) rfl rfl ?_
          refine zP HT_ 12 (some 45) rfl rfl ?_
          refine zT HT_ HW_ hHeld 14 (some 47) rfl rfl ?_
          refine zT HT_ HW_ hHeld 16 (some 49) rfl rfl ?_
          refine zP HT_ 18 (some 51) rfl rfl ?_
          refine zP HT_ 19 (some 52) rfl rfl ?_
          refine zP HT_ 20 (some 53) rfl rfl ?_
          refine one_ (i := 21) (N := some 8) #[true, true, true, true, true, true, true, true, true, true, true, true, true, true, true, true, true, true, true, true, true, true, false] rfl rfl (one_of HT_.out (by kernel_rfl)) (by decide) (fun K hK => ?_)
          refine box_step ?hg (N := 8) ?hd (cs := #[.int .i64 0, .int .i64 0, .int .i64 0, .int .i64 0]) (t := 25) ?hr ?_; (case hd => rfl); (case hg => rfl); (case hr => first | (go_simp; done) | (go_simp; rfl))
          intro gb449 hg w34 hbox hb
          refine zA13 (zY BK436.out hb) (zY BK437.out hb) (zY BK438.out hb) (below_step (zH3 HB.out GE436.out GE437.out GE438.out) hb) (hbox) ((zS hg (below_size (zH3 HB.out GE436.out GE437.out GE438.out)) : w.heap.size ≤ gb449)) ((zS hg (below_size (zH3 HB.out GE436.out GE437.out GE438.out)) : w.heap.size ≤ gb449)) ((zl hg (blk_lt (g := gb436) (o := .cells #[.int .i64 a0_0, .int .i64 a0_1, .int .i64 a0_2, .int .i64 a0_3] 25 (0, 0)) (zB BK436.out)) : gb436 ≠ gb449)) ((zg hg (blk_lt (g := gb436) (o := .cells #[.int .i64 a0_0, .int .i64 a0_1, .int .i64 a0_2, .int .i64 a0_3] 25 (0, 0)) (zB BK436.out)) : gb449 ≠ gb436)) ((zl hg (blk_lt (g := gb437) (o := .cells #[.int .i64 a1_0, .int .i64 a1_1, .int .i64 a1_2, .int .i64 a1_3] 25 (0, 0)) (zB BK437.out)) : gb437 ≠ gb449)) ((zg hg (blk_lt (g := gb437) (o := .cells #[.int .i64 a1_0, .int .i64 a1_1, .int .i64 a1_2, .int .i64 a1_3] 25 (0, 0)) (zB BK437.out)) : gb449 ≠ gb437)) ((zl hg (blk_lt (g := gb438) (o := .cells #[.int .i64 0, .int .i64 0, .int .i64 0, .int .i64 0] 25 (0, 0)) (zB BK438.out)) : gb438 ≠ gb449)) ((zg hg (blk_lt (g := gb438) (o := .cells #[.int .i64 0, .int .i64 0, .int .i64 0, .int .i64 0] 25 (0, 0)) (zB BK438.out)) : gb449 ≠ gb438)) ?_
          clear BK436 BK437 BK438 HB
          intro BK436 BK437 BK438 HB BK449 GW449 GE449 NB436_449 NB449_436 NB437_449 NB449_437 NB438_449 NB449_438
          clear hb hbox hg
          refine hK.out _ _ ⟨(blk_cell BK437.out 0).trans rfl, (blk_cell BK437.out 1).trans rfl, (blk_cell BK437.out 2).trans rfl, (blk_cell BK437.out 3).trans rfl, (blk_cell BK436.out 0).trans rfl, (blk_cell BK436.out 1).trans rfl, (blk_cell BK436.out 2).trans rfl, (blk_cell BK436.out 3).trans rfl⟩ (fun hHeld => ?_)
          clear hK K
          refine zW (some 8) ?_
          refine one_ (i := 22) (N := none) #[true, true, true, true, true, true, true, true, true, true, true, true, true, true, true, true, true, true, true, true, true, true, true] rfl rfl (one_of HT_.out (by kernel_rfl)) (by decide) (fun K hK => ?_)
          have hs35 : w34.cell? ⟨gb449, 0, none⟩ = some (.int .i64 0) := (blk_cell BK449.out 0).trans rfl
          have hfs35 := blk_frozen BK449.out 0
          have hns35_0 := NB436_449.out
          have hns35_1 := NB437_449.out
          have hns35_2 := NB438_449.out
          have hms35_0 := NB449_436.out
          have hms35_1 := NB449_437.out
          have hms35_2 := NB449_438.out
          have hs36 : w34.cell? ⟨gb449, 1, none⟩ = some (.int .i64 0) := (blk_cell BK449.out 1).trans rfl
          have hfs36 := blk_frozen BK449.out 1
          have hns36_0 := NB436_449.out
          have hns36_1 := NB437_449.out
          have hns36_2 := NB438_449.out
          have hms36_0 := NB449_436.out
          have hms36_1 := NB449_437.out
          have hms36_2 := NB449_438.out
          have hs37 : w34.cell? ⟨gb449, 2, none⟩ = some (.int .i64 0) := (blk_cell BK449.out 2).trans rfl
          have hfs37 := blk_frozen BK449.out 2
          have hns37_0 := NB436_449.out
          have hns37_1 := NB437_449.out
          have hns37_2 := NB438_449.out
          have hms37_0 := NB449_436.out
          have hms37_1 := NB449_437.out
          have hms37_2 := NB449_438.out
          have hs38 : w34.cell? ⟨gb449, 3, none⟩ = some (.int .i64 0) := (blk_cell BK449.out 3).trans rfl
          have hfs38 := blk_frozen BK449.out 3
          have hns38_0 := NB436_449.out
          have hns38_1 := NB437_449.out
          have hns38_2 := NB438_449.out
          have hms38_0 := NB449_436.out
          have hms38_1 := NB449_437.out
          have hms38_2 := NB449_438.out
          refine skip_ (w1 := ?_) (by rfl) rfl ?_ ?_
          rotate_left
          · go_simp
            rfl
          refine hK.out _ _ ⟨((cell_far (p := ⟨gb449, _, none⟩) NB437_449.out _).trans (((cell_far (p := ⟨gb449, _, none⟩) NB437_449.out _).trans (((cell_far (p := ⟨gb449, _, none⟩) NB437_449.out _).trans (((cell_far (p := ⟨gb449, _, none⟩) NB437_449.out _).trans (hHeld.1)))))))), ((cell_far (p := ⟨gb449, _, none⟩) NB437_449.out _).trans (((cell_far (p := ⟨gb449, _, none⟩) NB437_449.out _).trans (((cell_far (p := ⟨gb449, _, none⟩) NB437_449.out _).trans (((cell_far (p := ⟨gb449, _, none⟩) NB437_449.out _).trans (hHeld.2.1)))))))), ((cell_far (p := ⟨gb449, _, none⟩) NB437_449.out _).trans (((cell_far (p := ⟨gb449, _, none⟩) NB437_449.out _).trans (((cell_far (p := ⟨gb449, _, none⟩) NB437_449.out _).trans (((cell_far (p := ⟨gb449, _, none⟩) NB437_449.out _).trans (hHeld.2.2.1)))))))), ((cell_far (p := ⟨gb449, _, none⟩) NB437_449.out _).trans (((cell_far (p := ⟨gb449, _, none⟩) NB437_449.out _).trans (((cell_far (p := ⟨gb449, _, none⟩) NB437_449.out _).trans (((cell_far (p := ⟨gb449, _, none⟩) NB437_449.out _).trans (hHeld.2.2.2.1)))))))), ((cell_far (p := ⟨gb449, _, none⟩) NB436_449.out _).trans (((cell_far (p := ⟨gb449, _, none⟩) NB436_449.out _).trans (((cell_far (p := ⟨gb449, _, none⟩) NB436_449.out _).trans (((cell_far (p := ⟨gb449, _, none⟩) NB436_449.out _).trans (hHeld.2.2.2.2.1)))))))), ((cell_far (p := ⟨gb449, _, none⟩) NB436_449.out _).trans (((cell_far (p := ⟨gb449, _, none⟩) NB436_449.out _).trans (((cell_far (p := ⟨gb449, _, none⟩) NB436_449.out _).trans (((cell_far (p := ⟨gb449, _, none⟩) NB436_449.out _).trans (hHeld.2.2.2.2.2.1)))))))), ((cell_far (p := ⟨gb449, _, none⟩) NB436_449.out _).trans (((cell_far (p := ⟨gb449, _, none⟩) NB436_449.out _).trans (((cell_far (p := ⟨gb449, _, none⟩) NB436_449.out _).trans (((cell_far (p := ⟨gb449, _, none⟩) NB436_449.out _).trans (hHeld.2.2.2.2.2.2.1)))))))), ((cell_far (p := ⟨gb449, _, none⟩) NB436_449.out _).trans (((cell_far (p := ⟨gb449, _, none⟩) NB436_449.out _).trans (((cell_far (p := ⟨gb449, _, none⟩) NB436_449.out _).trans (((cell_far (p := ⟨gb449, _, none⟩) NB436_449.out _).trans (hHeld.2.2.2.2.2.2.2))))))))⟩ (fun hHeld => ?_)
          clear hK K
          refine done_ (done_of HT_.out (by kernel_rfl)) ?_
          have hnb39 := NB437_438.out
          have hnc39 := NB438_437.out
          have hnb40 := NB437_449.out
          have hnc40 := NB449_437.out
          obtain ⟨hcz41_0, hcz41_1, hcz41_2, hcz41_3⟩ := zc4 BK437
          obtain ⟨hfz41_0, hfz41_1, hfz41_2, hfz41_3⟩ := zf4 BK437
          try go_wp2
          go_loopg [56] kj2 (fun kq v56 w' => ∃ (x56_2 : Int) (x450001_2 : Int), v56 = .int .i64 x56_2 ∧ Aside0 (impl_UnionOf.l0 kq a0_0 a1_0 x56_2 a1_0 a1_1 a1_2 a1_3 (wrap64 (a0_0 + a1_0)) x450001_2 (Go.bits .or .i64 a0_2 (ji27)) (Go.bits .or .i64 a0_3 (ji29)) = some (r1, r2, r3, r4, r5)) ∧ Aside0 (kq ≤ kj2) ∧ Aside0 (w'.heap[gb436]? = some (.cells #[.int .i64 a0_0, .int .i64 a0_1, .int .i64 a0_2, .int .i64 a0_3] 25 (0, 0))) ∧ Aside0 (w'.heap[gb437]? = some (.cells #[.int .i64 a1_0, .int .i64 a1_1, .int .i64 a1_2, .int .i64 a1_3] 25 (0, 0))) ∧ Aside0 (w'.heap[gb438]? = some (.cells #[.int .i64 0, .int .i64 0, .int .i64 0, .int .i64 0] 25 (0, 0))) ∧ Aside0 (w'.heap[gb449]? = some (.cells #[.int .i64 (wrap64 (a0_0 + a1_0)), .int .i64 x450001_2, .int .i64 (Go.bits .or .i64 a0_2 (ji27)), .int .i64 (Go.bits .or .i64 a0_3 (ji29))] 25 (0, 0))) ∧ Aside0 (Below w.heap.size w w'))
          case atStart => exact ⟨(0), (a0_1), (zF), H', ⟨Nat.le_refl _⟩, ⟨zQ1 BK436.out NB436_449.out⟩, ⟨zQ1 BK437.out NB437_449.out⟩, ⟨zQ1 BK438.out NB438_449.out⟩, ⟨zQ BK449.out⟩, ⟨zH4 HB.out GE436.out GE437.out GE438.out GE449.out⟩⟩
          case round =>
            clear H'
            try clear c1
            try clear c2
            try clear p2
            try clear c3
            try clear c4
            try clear p6
            try clear c8
            try clear c11
            try clear c18
            try clear c25
            try clear c25b0
            try clear c25b1
            try clear c26
            try clear c26b0
            try clear c26b1
            try clear c28
            try clear c28b0
            try clear c30
            try clear c31
            try clear c35
            try clear c39
            try clear c40
            try clear hcz32_0
            try clear hcz32_1
            try clear hcz32_2
            try clear hcz32_3
            try clear hcz41_0
            try clear hcz41_1
            try clear hcz41_2
            try clear hcz41_3
            try clear hfz32_0
            try clear hfz32_1
            try clear hfz32_2
            try clear hfz32_3
            try clear hfz41_0
            try clear hfz41_1
            try clear hfz41_2
            try clear hfz41_3
            try clear p2
            try clear p6
            obtain ⟨x56_2, x450001_2, rfl, HA, HK2, BK436, BK437, BK438, BK449, HB⟩ := hrel
            cases gk with
            | zero => exact absurd HA.out (by simp [impl_UnionOf.l0])
            | succ k2 =>
              have H := HA.out
              clear HA
              simp only [impl_UnionOf.l0] at H
              by_cases c42 : x56_2 < a1_0
              · rw [if_pos c42] at H
                have c42b0 := decide_eq_true c42
                clear c42
                have H' := Aside0.mk H
                clear H
                go_wp2
                go_loopg [60] k2 (fun kq v60 w' => ∃ (x60_3 : Int) (x450001_3 : Int), v60 = .int .i64 x60_3 ∧ Aside0 (impl_UnionOf.l1 kq a0_0 x56_2 a1_0 x56_2 x56_2 x60_3 a1_0 a1_1 a1_2 a1_3 (wrap64 (a0_0 + a1_0)) x450001_3 (Go.bits .or .i64 a0_2 (ji27)) (Go.bits .or .i64 a0_3 (ji29)) = some (r1, r2, r3, r4, r5)) ∧ Aside0 (kq ≤ k2) ∧ Aside0 (w'.heap[gb436]? = some (.cells #[.int .i64 a0_0, .int .i64 a0_1, .int .i64 a0_2, .int .i64 a0_3] 25 (0, 0))) ∧ Aside0 (w'.heap[gb437]? = some (.cells #[.int .i64 a1_0, .int .i64 a1_1, .int .i64 a1_2, .int .i64 a1_3] 25 (0, 0))) ∧ Aside0 (w'.heap[gb438]? = some (.cells #[.int .i64 0, .int .i64 0, .int .i64 0, .int .i64 0] 25 (0, 0))) ∧ Aside0 (w'.heap[gb449]? = some (.cells #[.int .i64 (wrap64 (a0_0 + a1_0)), .int .i64 x450001_3, .int .i64 (Go.bits .or .i64 a0_2 (ji27)), .int .i64 (Go.bits .or .i64 a0_3 (ji29))] 25 (0, 0))) ∧ Aside0 (Below w.heap.size w w'))
                case atStart => exact ⟨(0), (x450001_2), (zF), H', ⟨Nat.le_refl _⟩, ⟨zB BK436.out⟩, ⟨zB BK437.out⟩, ⟨zB BK438.out⟩, ⟨zB BK449.out⟩, ⟨zH4 HB.out GE436.out GE437.out GE438.out GE449.out⟩⟩
                case round =>
                  clear H'
                  try clear c1
                  try clear c2
                  try clear p2
                  try clear c3
                  try clear c4
                  try clear p6
                  try clear c8
                  try clear c11
                  try clear c18
                  try clear c25
                  try clear c25b0
                  try clear c25b1
                  try clear c26
                  try clear c26b0
                  try clear c26b1
                  try clear c28
                  try clear c28b0
                  try clear c30
                  try clear c31
                  try clear c35
                  try clear c39
                  try clear c40
                  try clear c42
                  try clear c42b0
                  try clear hcz32_0
                  try clear hcz32_1
                  try clear hcz32_2
                  try clear hcz32_3
                  try clear hcz41_0
                  try clear hcz41_1
                  try clear hcz41_2
                  try clear hcz41_3
                  try clear hfz32_0
                  try clear hfz32_1
                  try clear hfz32_2
                  try clear hfz32_3
                  try clear hfz41_0
                  try clear hfz41_1
                  try clear hfz41_2
                  try clear hfz41_3
                  try clear p2
                  try clear p6
                  obtain ⟨x60_3, x450001_3, rfl, HA, HK3, BK436, BK437, BK438, BK449, HB⟩ := hrel
                  cases gk with
                  | zero => exact absurd HA.out (by simp [impl_UnionOf.l1])
                  | succ k3 =>
                    have H := HA.out
                    clear HA
                    simp only [impl_UnionOf.l1] at H
                    by_cases c43 : x60_3 < x56_2
                    · rw [if_pos c43] at H
                      have c43b0 := decide_eq_true c43
                      clear c43
                      obtain ⟨t450, A44, H⟩ := zb H
                      by_cases c45 : t450 = true
                      · subst c45
                        have H1 : ((impl_pairs.f (wrap64 (a0_0 + x56_2))).bind fun t451 => (if 0 ≤ (wrap64 ((wrap64 (t451 + a0_0)) + x60_3)) then (impl_UnionOf.l1 k3 a0_0 x56_2 a1_0 x56_2 x56_2 (wrap64 (x60_3 + 1)) a1_0 a1_1 a1_2 a1_3 (wrap64 (a0_0 + a1_0)) (Go.bits .or .i64 x450001_3 (shl .i64 1 (wrap64 ((wrap64 (t451 + a0_0)) + x60_3)))) (Go.bits .or .i64 a0_2 (ji27)) (Go.bits .or .i64 a0_3 (ji29))) else (none))) = some (r1, r2, r3, r4, r5) := by rw [if_pos rfl] at H; exact H
                        clear H
                        have H := H1
                        clear H1
                        obtain ⟨t451, A46, H⟩ := zb H
                        obtain ⟨ji47, hji47⟩ := zj (wrap64 ((wrap64 (t451 + a0_0)) + x60_3))
                        (first | rw [hji47] at H | simp only [hji47] at H)
                        (try rw [hji47] at A44)
                        (try rw [hji47] at A46)
                        have hji47w : (IntKind.i64.wrap ((wrap64 (t451 + a0_0)) + x60_3)) = ji47 := (i64_w _).trans hji47
                        by_cases c48 : 0 ≤ (ji47)
                        · rw [if_pos c48] at H
                          have c48b0 := eq_true c48
                          have c48b1 := decide_eq_true c48
                          clear c48
                          obtain ⟨ji49, hji49⟩ := zj (shl .i64 1 (ji47))
                          (first | rw [hji49] at H | simp only [hji49] at H)
                          (try rw [hji49] at A44)
                          (try rw [hji49] at A46)
                          have hji49_ : (IntKind.i64.wrap (1 * 2 ^ min (ji47).toNat 64)) = ji49 := hji49
                          have hji49z : (ji47) ≤ 64 → (IntKind.i64.wrap (1 * 2 ^ (ji47).toNat)) = ji49 := shl_small hji49
                          have hji49u : (IntKind.i64.wrap (2 ^ min (ji47).toNat 64)) = ji49 := by have h_ := hji49_; rw [Int.one_mul] at h_; exact h_
                          have hji49v : (ji47) ≤ 64 → (IntKind.i64.wrap (2 ^ (ji47).toNat)) = ji49 := fun hle_ => by have h_ := hji49z hle_; rw [Int.one_mul] at h_; exact h_
                          have hji49y : (wrap64 (1 * 2 ^ min (ji47).toNat 64)) = ji49 := (i64_w _).symm.trans hji49_
                          have hji49x : (ji47) ≤ 64 → (wrap64 (1 * 2 ^ (ji47).toNat)) = ji49 := fun h_ => (i64_w _).symm.trans (hji49z h_)
                          have H' := Aside0.mk H
                          clear H
                          have hnb50 := NB437_436.out
                          have hnc50 := NB436_437.out
                          have hnb51 := NB437_438.out
                          have hnc51 := NB438_437.out
                          have hnb52 := NB437_449.out
                          have hnc52 := NB449_437.out
                          obtain ⟨hcz53_0, hcz53_1, hcz53_2, hcz53_3⟩ := zc4 BK437
                          obtain ⟨hfz53_0, hfz53_1, hfz53_2, hfz53_3⟩ := zf4 BK437
                          try go_wp2_with (first | ((with_reducible refine gate_callee (f := 53) rfl ?_); refine goesL_ (some 66) rfl rfl Tryz.func53 (by kernel_rfl) rfl #[.agg #[.int .i64 a1_0, .int .i64 a1_1, .int .i64 a1_2, .int .i64 a1_3], .int .i64 x60_3, .int .i64 x56_2] rfl zM ?_; (with_reducible refine (impl_Field_joins.calls a1_0 a1_1 a1_2 a1_3 x60_3 x56_2 true _ A44.out).mono ?_); rintro e w54 ⟨rfl, hb⟩; refine ⟨_, rfl, ?_⟩; refine zA5 (zY BK436.out hb) (zY BK437.out hb) (zY BK438.out hb) (zY BK449.out hb) (below_step (zH4 HB.out GE436.out GE437.out GE438.out GE449.out) hb) ?_; clear BK436 BK437 BK438 BK449 HB; intro BK436 BK437 BK438 BK449 HB; (try clear hb); (try clear hb2); (try clear hk); (try clear hi)))
                          refine zA5 (blk_drew BK436.out) (blk_drew BK437.out) (blk_drew BK438.out) (blk_drew BK449.out) (below_drew1 HB.out) ?_
                          clear BK436 BK437 BK438 BK449 HB
                          intro BK436 BK437 BK438 BK449 HB
                          refine start_ (n := 14) (S := fun w' => w'.cell? ⟨gb449, 0, none⟩ = some (.int .i64 (wrap64 (a0_0 + a1_0))) ∧ w'.cell? ⟨gb449, 1, none⟩ = some (.int .i64 x450001_3) ∧ w'.cell? ⟨gb449, 2, none⟩ = some (.int .i64 (Go.bits .or .i64 a0_2 (ji27))) ∧ w'.cell? ⟨gb449, 3, none⟩ = some (.int .i64 (Go.bits .or .i64 a0_3 (ji29)))) (ds := [13]) #[false, false, false, false, false, false, false, false, false, false, false, false, false, false] (by kernel_rfl) rfl rfl ⟨(blk_cell BK449.out 0).trans rfl, (blk_cell BK449.out 1).trans rfl, (blk_cell BK449.out 2).trans rfl, (blk_cell BK449.out 3).trans rfl⟩ (fun hHeld => ?_); refine with_tabW impl_UnionOf.tab13 impl_UnionOf.bits13 (fun HT_ HW_ => ?_)
                          generalize w54.drew = w55 at BK436 BK437 BK438 BK449 HB hHeld ⊢
                          refine zP HT_ 0 (some 67) rfl rfl ?_
                          refine zP HT_ 2 (some 69) rfl rfl ?_
                          refine zP HT_ 3 (some 70) rfl rfl ?_
                          refine zP HT_ 4 (some 71) rfl rfl ?_
                          refine zP HT_ 6 (some 73) rfl rfl ?_
                          refine zP HT_ 8 (some 75) rfl rfl ?_
                          refine zT HT_ HW_ hHeld 1 (some 68) rfl rfl ?_
                          refine one_ (i := 5) (N := some 72) #[true, true, true, true, true, true, true, false, true, false, false, false, false, false] rfl rfl (one_of HT_.out (by kernel_rfl)) (by decide) (fun K hK => ?_)
                          refine goes_ Tryz.func46 (by kernel_rfl) rfl #[.int .i64 (wrap64 (a0_0 + x56_2))] (by rfl) rfl rfl zM ?_
                          with_reducible refine (impl_pairs.calls (wrap64 (a0_0 + x56_2)) t451 _ A46.out).mono ?_
                          rintro e w' ⟨rfl, ⟨nd, rfl⟩⟩
                          refine ⟨_, rfl, ?_⟩
                          refine hK.out _ _ ⟨(blk_cell BK449.out 0).trans rfl, (blk_cell BK449.out 1).trans rfl, (blk_cell BK449.out 2).trans rfl, (blk_cell BK449.out 3).trans rfl⟩ (fun hHeld => ?_)
                          clear hK K
                          refine zW (some 72) ?_
                          refine zP HT_ 7 (some 74) rfl rfl ?_
                          refine zP HT_ 9 (some 76) rfl rfl ?_
                          refine zP HT_ 10 (some 77) rfl rfl ?_
                          refine zP HT_ 11 (some 78) rfl rfl ?_
                          refine zP HT_ 12 (some 79) rfl rfl ?_
                          refine last_ (i := 13) (N := none) #[true, true, true, true, true, true, true, true, true, true, true, true, true, true] rfl rfl (one_of HT_.out (by kernel_rfl)) (by decide) (fun K hK => ?_)
                          have hs56 : w55.cell? ⟨gb449, 1, none⟩ = some (.int .i64 x450001_3) := (blk_cell BK449.out 1).trans rfl
                          have hfs56 := blk_frozen BK449.out 1
                          have hns56_0 := NB436_449.out
                          have hns56_1 := NB437_449.out
                          have hns56_2 := NB438_449.out
                          have hms56_0 := NB449_436.out
                          have hms56_1 := NB449_437.out
                          have hms56_2 := NB449_438.out
                          refine skip_ (w1 := ?_) (by rfl) rfl ?_ ?_
                          rotate_left
                          · go_simp
                            rfl
                          refine hK.out _ _ ?_
                          clear hK K
                          refine done_ (done_of HT_.out (by kernel_rfl)) ?_
                          try go_wp2
                          go_roundg k3
                          case measure => have := HJ2.out; have := HK2.out; have := HK3.out; omega
                          case rel => exact ⟨(wrap64 (x60_3 + 1)), (Go.bits .or .i64 x450001_3 (ji49)), (zF), H', ⟨by have := HJ2.out; have := HK2.out; have := HK3.out; omega⟩, ⟨zQ1 BK436.out NB436_449.out⟩, ⟨zQ1 BK437.out NB437_449.out⟩, ⟨zQ1 BK438.out NB438_449.out⟩, ⟨zQ BK449.out⟩, ⟨zH4 HB.out GE436.out GE437.out GE438.out GE449.out⟩⟩
                        · rw [if_neg c48] at H
                          exact absurd H (by simp)
                      · replace c45 := Bool.eq_false_iff.mpr c45
                        subst c45
                        have H1 : (impl_UnionOf.l1 k3 a0_0 x56_2 a1_0 x56_2 x56_2 (wrap64 (x60_3 + 1)) a1_0 a1_1 a1_2 a1_3 (wrap64 (a0_0 + a1_0)) x450001_3 (Go.bits .or .i64 a0_2 (ji27)) (Go.bits .or .i64 a0_3 (ji29))) = some (r1, r2, r3, r4, r5) := by rw [if_neg (show ¬ (false = true) by decide)] at H; exact H
                        clear H
                        have H := H1
                        clear H1
                        have H' := Aside0.mk H
                        clear H
                        have hnb57 := NB437_436.out
                        have hnc57 := NB436_437.out
                        have hnb58 := NB437_438.out
                        have hnc58 := NB438_437.out
                        have hnb59 := NB437_449.out
                        have hnc59 := NB449_437.out
                        obtain ⟨hcz60_0, hcz60_1, hcz60_2, hcz60_3⟩ := zc4 BK437
                        obtain ⟨hfz60_0, hfz60_1, hfz60_2, hfz60_3⟩ := zf4 BK437
                        go_wp2_with (first | ((with_reducible refine gate_callee (f := 53) rfl ?_); refine goesL_ (some 66) rfl rfl Tryz.func53 (by kernel_rfl) rfl #[.agg #[.int .i64 a1_0, .int .i64 a1_1, .int .i64 a1_2, .int .i64 a1_3], .int .i64 x60_3, .int .i64 x56_2] rfl zM ?_; (with_reducible refine (impl_Field_joins.calls a1_0 a1_1 a1_2 a1_3 x60_3 x56_2 false _ A44.out).mono ?_); rintro e w61 ⟨rfl, hb⟩; refine ⟨_, rfl, ?_⟩; refine zA5 (zY BK436.out hb) (zY BK437.out hb) (zY BK438.out hb) (zY BK449.out hb) (below_step (zH4 HB.out GE436.out GE437.out GE438.out GE449.out) hb) ?_; clear BK436 BK437 BK438 BK449 HB; intro BK436 BK437 BK438 BK449 HB; (try clear hb); (try clear hb2); (try clear hk); (try clear hi)))
                        go_roundg k3
                        case measure => have := HJ2.out; have := HK2.out; have := HK3.out; omega
                        case rel => exact ⟨(wrap64 (x60_3 + 1)), (x450001_3), (zF), H', ⟨by have := HJ2.out; have := HK2.out; have := HK3.out; omega⟩, ⟨zB BK436.out⟩, ⟨zB BK437.out⟩, ⟨zB BK438.out⟩, ⟨zB BK449.out⟩, ⟨zH4 HB.out GE436.out GE437.out GE438.out GE449.out⟩⟩
                    · rw [if_neg c43] at H
                      have c43b0 := decide_eq_false c43
                      clear c43
                      have H' := Aside0.mk H
                      clear H
                      go_wp2
                      go_roundg k3
                      case measure => have := HJ2.out; have := HK2.out; have := HK3.out; omega
                      case rel => exact ⟨(wrap64 (x56_2 + 1)), (x450001_3), (zF), H', ⟨by have := HJ2.out; have := HK2.out; have := HK3.out; omega⟩, ⟨zB BK436.out⟩, ⟨zB BK437.out⟩, ⟨zB BK438.out⟩, ⟨zB BK449.out⟩, ⟨zH4 HB.out GE436.out GE437.out GE438.out GE449.out⟩⟩
              · rw [if_neg c42] at H
                have c42b0 := decide_eq_false c42
                clear c42
                simp only [Option.some.injEq, Prod.mk.injEq] at H
                obtain ⟨rfl, rfl, rfl, rfl, rfl⟩ := H
                have hnb62 := NB449_436.out
                have hnc62 := NB436_449.out
                have hnb63 := NB449_437.out
                have hnc63 := NB437_449.out
                have hnb64 := NB449_438.out
                have hnc64 := NB438_449.out
                obtain ⟨hcz65_0, hcz65_1, hcz65_2, hcz65_3⟩ := zc4 BK449
                obtain ⟨hfz65_0, hfz65_1, hfz65_2, hfz65_3⟩ := zf4 BK449
                have hnb66 := NB438_436.out
                have hnc66 := NB436_438.out
                have hnb67 := NB438_437.out
                have hnc67 := NB437_438.out
                obtain ⟨hcz68_0, hcz68_1, hcz68_2, hcz68_3⟩ := zc4 BK438
                obtain ⟨hfz68_0, hfz68_1, hfz68_2, hfz68_3⟩ := zf4 BK438
                go_wp2
                refine bodyPost_ret (results_ct rfl _ _ gb438 25 #[.int .i64 (wrap64 (a0_0 + a1_0)), .int .i64 x450001_2, .int .i64 (Go.bits .or .i64 a0_2 (ji27)), .int .i64 (Go.bits .or .i64 a0_3 (ji29))] (0, 0) _ rfl (zQ BK438.out) Tryz.underlying25 rfl (by kernel_rfl)) rfl ?_
                exact ⟨by first | rfl | (simp [errW_none, errW_some] <;> rfl) | (simp only [← hji27, ← hji29]; first | rfl | (simp [errW_none, errW_some] <;> rfl)) | (simp [*, errW_none, errW_some] <;> rfl), zH4 HB.out GE436.out GE437.out GE438.out GE449.out⟩
        · rw [if_neg c26] at H
          exact absurd H (by simp)
      · rw [if_neg c25] at H
        have c25b0 := zq3 c25
        have c25b1 := zq4 c25
        simp only [Option.some.injEq, Prod.mk.injEq] at H
        obtain ⟨rfl, rfl, rfl, rfl, rfl⟩ := H
        have hnb69 := NB438_436.out
        have hnc69 := NB436_438.out
        have hnb70 := NB438_437.out
        have hnc70 := NB437_438.out
        obtain ⟨hcz71_0, hcz71_1, hcz71_2, hcz71_3⟩ := zc4 BK438
        obtain ⟨hfz71_0, hfz71_1, hfz71_2, hfz71_3⟩ := zf4 BK438
        go_wp2
        refine bodyPost_ret (results_ct rfl _ _ gb438 25 #[.int .i64 0, .int .i64 0, .int .i64 0, .int .i64 0] (0, 0) _ rfl (zQ BK438.out) Tryz.underlying25 rfl (by kernel_rfl)) rfl ?_
        exact ⟨zE, zH3 HB.out GE436.out GE437.out GE438.out⟩

/-! ### spec_UnionOf: function 19 -/
def spec_UnionOf.j0 : Nat → Bool → Int → Int → Int → Int → Int → Int → Int → Int → Option (Int × Int × Int × Int × Int)
  | 0, _, _, _, _, _, _, _, _, _ => none
  | k + 1, x6, x453000, x453001, x453002, x453003, x454000, x454001, x454002, x454003 => if x6 = true then (some (0, 0, 0, 0, 1)) else (if (wrap64 (x453000 + x454000)) > 8 then (some (0, 0, 0, 0, 3)) else ((spec_l05Union.f k x453000 x453001 x453002 x453003 x454000 x454001 x454002 x454003).bind fun bt457 => (some (bt457.1, bt457.2.1, bt457.2.2.1, bt457.2.2.2, 0))))
def spec_UnionOf.f (k : Nat) (a0_0 : Int) (a0_1 : Int) (a0_2 : Int) (a0_3 : Int) (a1_0 : Int) (a1_1 : Int) (a1_2 : Int) (a1_3 : Int) : Option (Int × Int × Int × Int × Int) := (spec_l05Is.f a0_0 a0_1 a0_2 a0_3).bind fun t455 => (if t455 = true then ((spec_l05Is.f a1_0 a1_1 a1_2 a1_3).bind fun t456 => (spec_UnionOf.j0 k (!t456) a0_0 a0_1 a0_2 a0_3 a1_0 a1_1 a1_2 a1_3)) else (spec_UnionOf.j0 k true a0_0 a0_1 a0_2 a0_3 a1_0 a1_1 a1_2 a1_3))
set_option maxHeartbeats 8000000 in
set_option maxRecDepth 100000 in
theorem spec_UnionOf.calls (k : Nat) (a0_0 : Int) (a0_1 : Int) (a0_2 : Int) (a0_3 : Int) (a1_0 : Int) (a1_1 : Int) (a1_2 : Int) (a1_3 : Int) (r1 : Int) (r2 : Int) (r3 : Int) (r4 : Int) (r5 : Int) (w : World) (h : spec_UnionOf.f k a0_0 a0_1 a0_2 a0_3 a1_0 a1_1 a1_2 a1_3 = some (r1, r2, r3, r4, r5)) :
    Calls Tryz.prog 19 #[.agg #[.int .i64 a0_0, .int .i64 a0_1, .int .i64 a0_2, .int .i64 a0_3], .agg #[.int .i64 a1_0, .int .i64 a1_1, .int .i64 a1_2, .int .i64 a1_3]] w fun e w' => e = .returned (.tuple #[.agg #[.int .i64 r1, .int .i64 r2, .int .i64 r3, .int .i64 r4], .int .i64 r5]) ∧ Below w.heap.size w w' := by
  have hu25 := Tryz.underlying25
  have HB := Aside0.mk (Below.refl w.heap.size w)
  have H : ((spec_l05Is.f a0_0 a0_1 a0_2 a0_3).bind fun t455 => (if t455 = true then ((spec_l05Is.f a1_0 a1_1 a1_2 a1_3).bind fun t456 => (spec_UnionOf.j0 k (!t456) a0_0 a0_1 a0_2 a0_3 a1_0 a1_1 a1_2 a1_3)) else (spec_UnionOf.j0 k true a0_0 a0_1 a0_2 a0_3 a1_0 a1_1 a1_2 a1_3))) = some (r1, r2, r3, r4, r5) := h
  clear h
  have HC3 := Aside0.mk H
  clear H
  go_enter Tryz.func19, Tryz.ntmps19
  go_upto_region 1 with (first | ((with_reducible refine gate_dst (N := 2) rfl ?_); refine zX 2 #[.int .i64 a0_0, .int .i64 a0_1, .int .i64 a0_2, .int .i64 a0_3] 25 ?_; intro gb452 hg w4 hbox hb; refine zA4 (below_step (zH HB.out) hb) (hbox) ((zS hg (below_size (zH HB.out)) : w.heap.size ≤ gb452)) ((zS hg (below_size (zH HB.out)) : w.heap.size ≤ gb452)) ?_; clear HB; intro HB BK452 GW452 GE452; clear hb hbox hg) | ((with_reducible refine gate_dst (N := 3) rfl ?_); refine zX 3 #[.int .i64 a1_0, .int .i64 a1_1, .int .i64 a1_2, .int .i64 a1_3] 25 ?_; intro gb453 hg w5 hbox hb; refine zA7 (zY BK452.out hb) (below_step (zH1 HB.out GE452.out) hb) (hbox) ((zS hg (below_size (zH1 HB.out GE452.out)) : w.heap.size ≤ gb453)) ((zS hg (below_size (zH1 HB.out GE452.out)) : w.heap.size ≤ gb453)) ((zl hg (blk_lt (g := gb452) (o := .cells #[.int .i64 a0_0, .int .i64 a0_1, .int .i64 a0_2, .int .i64 a0_3] 25 (0, 0)) (zB BK452.out)) : gb452 ≠ gb453)) ((zg hg (blk_lt (g := gb452) (o := .cells #[.int .i64 a0_0, .int .i64 a0_1, .int .i64 a0_2, .int .i64 a0_3] 25 (0, 0)) (zB BK452.out)) : gb453 ≠ gb452)) ?_; clear BK452 HB; intro BK452 HB BK453 GW453 GE453 NB452_453 NB453_452; clear hb hbox hg) | ((with_reducible refine gate_dst (N := 4) rfl ?_); refine zX 4 #[.int .i64 0, .int .i64 0, .int .i64 0, .int .i64 0] 25 ?_; intro gb454 hg w6 hbox hb; refine zA10 (zY BK452.out hb) (zY BK453.out hb) (below_step (zH2 HB.out GE452.out GE453.out) hb) (hbox) ((zS hg (below_size (zH2 HB.out GE452.out GE453.out)) : w.heap.size ≤ gb454)) ((zS hg (below_size (zH2 HB.out GE452.out GE453.out)) : w.heap.size ≤ gb454)) ((zl hg (blk_lt (g := gb452) (o := .cells #[.int .i64 a0_0, .int .i64 a0_1, .int .i64 a0_2, .int .i64 a0_3] 25 (0, 0)) (zB BK452.out)) : gb452 ≠ gb454)) ((zg hg (blk_lt (g := gb452) (o := .cells #[.int .i64 a0_0, .int .i64 a0_1, .int .i64 a0_2, .int .i64 a0_3] 25 (0, 0)) (zB BK452.out)) : gb454 ≠ gb452)) ((zl hg (blk_lt (g := gb453) (o := .cells #[.int .i64 a1_0, .int .i64 a1_1, .int .i64 a1_2, .int .i64 a1_3] 25 (0, 0)) (zB BK453.out)) : gb453 ≠ gb454)) ((zg hg (blk_lt (g := gb453) (o := .cells #[.int .i64 a1_0, .int .i64 a1_1, .int .i64 a1_2, .int .i64 a1_3] 25 (0, 0)) (zB BK453.out)) : gb454 ≠ gb453)) ?_; clear BK452 BK453 HB; intro BK452 BK453 HB BK454 GW454 GE454 NB452_454 NB454_452 NB453_454 NB454_453; clear hb hbox hg))
  (try simp only [Act.put, List.setIfInBounds_toArray, List.set_cons_zero, List.set_cons_succ])
  go_cut [6] (fun v6 wc => ∃ (kq : Nat) (x6_2 : Bool), v6 = .bool x6_2 ∧ Aside0 (spec_UnionOf.j0 kq x6_2 a0_0 a0_1 a0_2 a0_3 a1_0 a1_1 a1_2 a1_3 = some (r1, r2, r3, r4, r5)) ∧ Aside0 (kq ≤ k) ∧ Aside0 (wc.heap[gb452]? = some (.cells #[.int .i64 a0_0, .int .i64 a0_1, .int .i64 a0_2, .int .i64 a0_3] 25 (0, 0))) ∧ Aside0 (wc.heap[gb453]? = some (.cells #[.int .i64 a1_0, .int .i64 a1_1, .int .i64 a1_2, .int .i64 a1_3] 25 (0, 0))) ∧ Aside0 (wc.heap[gb454]? = some (.cells #[.int .i64 0, .int .i64 0, .int .i64 0, .int .i64 0] 25 (0, 0))) ∧ Aside0 (Below w.heap.size w wc))
  case first =>
    have H := HC3.out
    clear HC3
    obtain ⟨t455, A7, H⟩ := zb H
    by_cases c8 : t455 = true
    · subst c8
      have H1 : ((spec_l05Is.f a1_0 a1_1 a1_2 a1_3).bind fun t456 => (spec_UnionOf.j0 k (!t456) a0_0 a0_1 a0_2 a0_3 a1_0 a1_1 a1_2 a1_3)) = some (r1, r2, r3, r4, r5) := by rw [if_pos rfl] at H; exact H
      clear H
      have H := H1
      clear H1
      obtain ⟨t456, A9, H⟩ := zb H
      have H' := Aside0.mk H
      clear H
      have hnb10 := NB452_453.out
      have hnc10 := NB453_452.out
      have hnb11 := NB452_454.out
      have hnc11 := NB454_452.out
      obtain ⟨hcz12_0, hcz12_1, hcz12_2, hcz12_3⟩ := zc4 BK452
      obtain ⟨hfz12_0, hfz12_1, hfz12_2, hfz12_3⟩ := zf4 BK452
      go_wp2_with (first | ((with_reducible refine gate_callee (f := 47) rfl ?_); refine goesL_ (some 8) rfl rfl Tryz.func47 (by kernel_rfl) rfl #[.agg #[.int .i64 a0_0, .int .i64 a0_1, .int .i64 a0_2, .int .i64 a0_3]] rfl zM ?_; (with_reducible refine (spec_l05Is.calls a0_0 a0_1 a0_2 a0_3 true _ A7.out).mono ?_); rintro e w13 ⟨rfl, hb⟩; refine ⟨_, rfl, ?_⟩; refine zA4 (zY BK452.out hb) (zY BK453.out hb) (zY BK454.out hb) (below_step (zH3 HB.out GE452.out GE453.out GE454.out) hb) ?_; clear BK452 BK453 BK454 HB; intro BK452 BK453 BK454 HB; (try clear hb); (try clear hb2); (try clear hk); (try clear hi); have hnb14 := NB453_454.out; have hnc14 := NB454_453.out; obtain ⟨hcz15_0, hcz15_1, hcz15_2, hcz15_3⟩ := zc4 BK453; obtain ⟨hfz15_0, hfz15_1, hfz15_2, hfz15_3⟩ := zf4 BK453) | (go_at_call 47; (with_reducible refine (spec_l05Is.calls a1_0 a1_1 a1_2 a1_3 t456 _ A9.out).mono ?_); rintro e w16 ⟨rfl, hb⟩; refine zA4 (zY BK452.out hb) (zY BK453.out hb) (zY BK454.out hb) (below_step (zH3 HB.out GE452.out GE453.out GE454.out) hb) ?_; clear BK452 BK453 BK454 HB; intro BK452 BK453 BK454 HB; (try clear hb); (try clear hb2); (try clear hk); (try clear hi)))
      go_meet
      case rel => exact ⟨_, (!t456), (zF), H', ⟨by first | omega | exact Nat.le_refl _⟩, ⟨zB BK452.out⟩, ⟨zB BK453.out⟩, ⟨zB BK454.out⟩, ⟨zH3 HB.out GE452.out GE453.out GE454.out⟩⟩
    · replace c8 := Bool.eq_false_iff.mpr c8
      subst c8
      have H1 : (spec_UnionOf.j0 k true a0_0 a0_1 a0_2 a0_3 a1_0 a1_1 a1_2 a1_3) = some (r1, r2, r3, r4, r5) := by rw [if_neg (show ¬ (false = true) by decide)] at H; exact H
      clear H
      have H := H1
      clear H1
      have H' := Aside0.mk H
      clear H
      have hnb17 := NB452_453.out
      have hnc17 := NB453_452.out
      have hnb18 := NB452_454.out
      have hnc18 := NB454_452.out
      obtain ⟨hcz19_0, hcz19_1, hcz19_2, hcz19_3⟩ := zc4 BK452
      obtain ⟨hfz19_0, hfz19_1, hfz19_2, hfz19_3⟩ := zf4 BK452
      go_wp2_with (first | ((with_reducible refine gate_callee (f := 47) rfl ?_); refine goesL_ (some 8) rfl rfl Tryz.func47 (by kernel_rfl) rfl #[.agg #[.int .i64 a0_0, .int .i64 a0_1, .int .i64 a0_2, .int .i64 a0_3]] rfl zM ?_; (with_reducible refine (spec_l05Is.calls a0_0 a0_1 a0_2 a0_3 false _ A7.out).mono ?_); rintro e w20 ⟨rfl, hb⟩; refine ⟨_, rfl, ?_⟩; refine zA4 (zY BK452.out hb) (zY BK453.out hb) (zY BK454.out hb) (below_step (zH3 HB.out GE452.out GE453.out GE454.out) hb) ?_; clear BK452 BK453 BK454 HB; intro BK452 BK453 BK454 HB; (try clear hb); (try clear hb2); (try clear hk); (try clear hi)))
      go_meet
      case rel => exact ⟨_, (true), (zF), H', ⟨by first | omega | exact Nat.le_refl _⟩, ⟨zB BK452.out⟩, ⟨zB BK453.out⟩, ⟨zB BK454.out⟩, ⟨zH3 HB.out GE452.out GE453.out GE454.out⟩⟩
  case rest =>
    clear HC3
    try clear c1
    try clear p2
    try clear c4
    try clear c8
    try clear c10
    try clear c11
    try clear c14
    try clear c17
    try clear c18
    try clear c19
    try clear hcz12_0
    try clear hcz12_1
    try clear hcz12_2
    try clear hcz12_3
    try clear hcz15_0
    try clear hcz15_1
    try clear hcz15_2
    try clear hcz15_3
    try clear hcz19_0
    try clear hcz19_1
    try clear hcz19_2
    try clear hcz19_3
    try clear hfz12_0
    try clear hfz12_1
    try clear hfz12_2
    try clear hfz12_3
    try clear hfz15_0
    try clear hfz15_1
    try clear hfz15_2
    try clear hfz15_3
    try clear hfz19_0
    try clear hfz19_1
    try clear hfz19_2
    try clear hfz19_3
    obtain ⟨kq, x6_2, rfl, HA, HJ2, BK452, BK453, BK454, HB⟩ := hcut
    cases kq with
    | zero => exact absurd HA.out (by simp [spec_UnionOf.j0])
    | succ kj2 =>
      have H := HA.out
      clear HA
      simp only [spec_UnionOf.j0] at H
      by_cases c21 : x6_2 = true
      · subst c21
        have H1 : (some (0, 0, 0, 0, 1)) = some (r1, r2, r3, r4, r5) := by rw [if_pos rfl] at H; exact H
        clear H
        have H := H1
        clear H1
        simp only [Option.some.injEq, Prod.mk.injEq] at H
        obtain ⟨rfl, rfl, rfl, rfl, rfl⟩ := H
        have hnb22 := NB454_452.out
        have hnc22 := NB452_454.out
        have hnb23 := NB454_453.out
        have hnc23 := NB453_454.out
        obtain ⟨hcz24_0, hcz24_1, hcz24_2, hcz24_3⟩ := zc4 BK454
        obtain ⟨hfz24_0, hfz24_1, hfz24_2, hfz24_3⟩ := zf4 BK454
        go_wp2
        refine bodyPost_ret (results_ct rfl _ _ gb454 25 #[.int .i64 0, .int .i64 0, .int .i64 0, .int .i64 0] (0, 0) _ rfl (zQ BK454.out) Tryz.underlying25 rfl (by kernel_rfl)) rfl ?_
        exact ⟨zE, zH3 HB.out GE452.out GE453.out GE454.out⟩
      · replace c21 := Bool.eq_false_iff.mpr c21
        subst c21
        have H1 : (if (wrap64 (a0_0 + a1_0)) > 8 then (some (0, 0, 0, 0, 3)) else ((spec_l05Union.f kj2 a0_0 a0_1 a0_2 a0_3 a1_0 a1_1 a1_2 a1_3).bind fun bt457 => (some (bt457.1, bt457.2.1, bt457.2.2.1, bt457.2.2.2, 0)))) = some (r1, r2, r3, r4, r5) := by rw [if_neg (show ¬ (false = true) by decide)] at H; exact H
        clear H
        have H := H1
        clear H1
        by_cases c25 : (wrap64 (a0_0 + a1_0)) > 8
        · rw [if_pos c25] at H
          have c25b0 := decide_eq_true c25
          clear c25
          simp only [Option.some.injEq, Prod.mk.injEq] at H
          obtain ⟨rfl, rfl, rfl, rfl, rfl⟩ := H
          have hnb26 := NB452_453.out
          have hnc26 := NB453_452.out
          have hnb27 := NB452_454.out
          have hnc27 := NB454_452.out
          obtain ⟨hcz28_0, hcz28_1, hcz28_2, hcz28_3⟩ := zc4 BK452
          obtain ⟨hfz28_0, hfz28_1, hfz28_2, hfz28_3⟩ := zf4 BK452
          have hnb29 := NB453_454.out
          have hnc29 := NB454_453.out
          obtain ⟨hcz30_0, hcz30_1, hcz30_2, hcz30_3⟩ := zc4 BK453
          obtain ⟨hfz30_0, hfz30_1, hfz30_2, hfz30_3⟩ := zf4 BK453
          obtain ⟨hcz31_0, hcz31_1, hcz31_2, hcz31_3⟩ := zc4 BK454
          obtain ⟨hfz31_0, hfz31_1, hfz31_2, hfz31_3⟩ := zf4 BK454
          go_wp2
          refine bodyPost_ret (results_ct rfl _ _ gb454 25 #[.int .i64 0, .int .i64 0, .int .i64 0, .int .i64 0] (0, 0) _ rfl (zQ BK454.out) Tryz.underlying25 rfl (by kernel_rfl)) rfl ?_
          exact ⟨zE, zH3 HB.out GE452.out GE453.out GE454.out⟩
        · rw [if_neg c25] at H
          have c25b0 := decide_eq_false c25
          clear c25
          obtain ⟨⟨t457, t458, t459, t460⟩, A32, H⟩ := zb H; (try dsimp only at H)
          simp only [Option.some.injEq, Prod.mk.injEq] at H
          obtain ⟨rfl, rfl, rfl, rfl, rfl⟩ := H
          have hnb33 := NB452_453.out
          have hnc33 := NB453_452.out
          have hnb34 := NB452_454.out
          have hnc34 := NB454_452.out
          obtain ⟨hcz35_0, hcz35_1, hcz35_2, hcz35_3⟩ := zc4 BK452
          obtain ⟨hfz35_0, hfz35_1, hfz35_2, hfz35_3⟩ := zf4 BK452
          have hnb36 := NB453_454.out
          have hnc36 := NB454_453.out
          obtain ⟨hcz37_0, hcz37_1, hcz37_2, hcz37_3⟩ := zc4 BK453
          obtain ⟨hfz37_0, hfz37_1, hfz37_2, hfz37_3⟩ := zf4 BK453
          go_wp2_with (first | ((with_reducible refine gate_callee (f := 59) rfl ?_); refine goesL_ (some 26) rfl rfl Tryz.func59 (by kernel_rfl) rfl #[.agg #[.int .i64 a0_0, .int .i64 a0_1, .int .i64 a0_2, .int .i64 a0_3], .agg #[.int .i64 a1_0, .int .i64 a1_1, .int .i64 a1_2, .int .i64 a1_3]] rfl zM ?_; (with_reducible refine (spec_l05Union.calls kj2 a0_0 a0_1 a0_2 a0_3 a1_0 a1_1 a1_2 a1_3 t457 t458 t459 t460 _ A32.out).mono ?_); rintro e w38 ⟨rfl, hb⟩; refine ⟨_, rfl, ?_⟩; refine zA4 (zY BK452.out hb) (zY BK453.out hb) (zY BK454.out hb) (below_step (zH3 HB.out GE452.out GE453.out GE454.out) hb) ?_; clear BK452 BK453 BK454 HB; intro BK452 BK453 BK454 HB; (try clear hb); (try clear hb2); (try clear hk); (try clear hi); obtain ⟨hcz39_0, hcz39_1, hcz39_2, hcz39_3⟩ := zc4 BK454; obtain ⟨hfz39_0, hfz39_1, hfz39_2, hfz39_3⟩ := zf4 BK454))
          refine bodyPost_ret (results_ct rfl _ _ gb454 25 #[.int .i64 t457, .int .i64 t458, .int .i64 t459, .int .i64 t460] (0, 0) _ rfl (zQ BK454.out) Tryz.underlying25 rfl (by kernel_rfl)) rfl ?_
          exact ⟨zE, zH3 HB.out GE452.out GE453.out GE454.out⟩

/-! ### impl_AreJoined: function 20 -/
def impl_AreJoined.j0 : Nat → Int → Int → Bool → Int → Int → Int → Int → Option (Bool × Int)
  | 0, _, _, _, _, _, _, _ => none
  | k + 1, x1, x2, x8, x462000, x462001, x462002, x462003 => (impl_IsField.f x462000 x462001 x462002 x462003).bind fun t464 => ((impl_first.f k (([(⟨t464, 1⟩ : S58), (⟨x8, 2⟩ : S58)] : List (S58)))).bind fun t468 => (if t468 = 0 then ((impl_Field_joins.f x462000 x462001 x462002 x462003 x1 x2).bind fun t469 => (some (t469, 0))) else (some (false, t468))))
def impl_AreJoined.f (k : Nat) (a0_0 : Int) (a0_1 : Int) (a0_2 : Int) (a0_3 : Int) (a1 : Int) (a2 : Int) : Option (Bool × Int) := (impl_within.f a1 0 (wrap64 (a0_0 - 1))).bind fun t462 => (if t462 = true then ((impl_within.f a2 0 (wrap64 (a0_0 - 1))).bind fun t463 => (if t463 = true then (impl_AreJoined.j0 k a1 a2 (a1 != a2) a0_0 a0_1 a0_2 a0_3) else (impl_AreJoined.j0 k a1 a2 false a0_0 a0_1 a0_2 a0_3))) else (impl_AreJoined.j0 k a1 a2 false a0_0 a0_1 a0_2 a0_3))
set_option maxHeartbeats 8000000 in
set_option maxRecDepth 100000 in
theorem impl_AreJoined.calls (k : Nat) (a0_0 : Int) (a0_1 : Int) (a0_2 : Int) (a0_3 : Int) (a1 : Int) (a2 : Int) (r1 : Bool) (r2 : Int) (w : World) (h : impl_AreJoined.f k a0_0 a0_1 a0_2 a0_3 a1 a2 = some (r1, r2)) :
    Calls Tryz.prog 20 #[.agg #[.int .i64 a0_0, .int .i64 a0_1, .int .i64 a0_2, .int .i64 a0_3], .int .i64 a1, .int .i64 a2] w fun e w' => e = .returned (.tuple #[.bool r1, .int .i64 r2]) ∧ Below w.heap.size w w' := by
  have hu25 := Tryz.underlying25
  have hu58 := Tryz.underlying58
  have HB := Aside0.mk (Below.refl w.heap.size w)
  have H : ((impl_within.f a1 0 (wrap64 (a0_0 - 1))).bind fun t462 => (if t462 = true then ((impl_within.f a2 0 (wrap64 (a0_0 - 1))).bind fun t463 => (if t463 = true then (impl_AreJoined.j0 k a1 a2 (a1 != a2) a0_0 a0_1 a0_2 a0_3) else (impl_AreJoined.j0 k a1 a2 false a0_0 a0_1 a0_2 a0_3))) else (impl_AreJoined.j0 k a1 a2 false a0_0 a0_1 a0_2 a0_3))) = some (r1, r2) := h
  clear h
  have HC4 := Aside0.mk H
  clear H
  go_enter Tryz.func20, Tryz.ntmps20
  go_upto_region 1 with (first | ((with_reducible refine gate_dst (N := 3) rfl ?_); refine zX 3 #[.int .i64 a0_0, .int .i64 a0_1, .int .i64 a0_2, .int .i64 a0_3] 25 ?_; intro gb461 hg w5 hbox hb; refine zA4 (below_step (zH HB.out) hb) (hbox) ((zS hg (below_size (zH HB.out)) : w.heap.size ≤ gb461)) ((zS hg (below_size (zH HB.out)) : w.heap.size ≤ gb461)) ?_; clear HB; intro HB BK461 GW461 GE461; clear hb hbox hg))
  (try simp only [Act.put, List.setIfInBounds_toArray, List.set_cons_zero, List.set_cons_succ])
  go_cut [8] (fun v8 wc => ∃ (kq : Nat) (x8_3 : Bool), v8 = .bool x8_3 ∧ Aside0 (impl_AreJoined.j0 kq a1 a2 x8_3 a0_0 a0_1 a0_2 a0_3 = some (r1, r2)) ∧ Aside0 (kq ≤ k) ∧ Aside0 (wc.heap[gb461]? = some (.cells #[.int .i64 a0_0, .int .i64 a0_1, .int .i64 a0_2, .int .i64 a0_3] 25 (0, 0))) ∧ Aside0 (Below w.heap.size w wc))
  case first =>
    have H := HC4.out
    clear HC4
    obtain ⟨t462, A6, H⟩ := zb H
    by_cases c7 : t462 = true
    · subst c7
      have H1 : ((impl_within.f a2 0 (wrap64 (a0_0 - 1))).bind fun t463 => (if t463 = true then (impl_AreJoined.j0 k a1 a2 (a1 != a2) a0_0 a0_1 a0_2 a0_3) else (impl_AreJoined.j0 k a1 a2 false a0_0 a0_1 a0_2 a0_3))) = some (r1, r2) := by rw [if_pos rfl] at H; exact H
      clear H
      have H := H1
      clear H1
      obtain ⟨t463, A8, H⟩ := zb H
      by_cases c9 : t463 = true
      · subst c9
        have H1 : (impl_AreJoined.j0 k a1 a2 (a1 != a2) a0_0 a0_1 a0_2 a0_3) = some (r1, r2) := by rw [if_pos rfl] at H; exact H
        clear H
        have H := H1
        clear H1
        have H' := Aside0.mk H
        clear H
        obtain ⟨hcz10_0, hcz10_1, hcz10_2, hcz10_3⟩ := zc4 BK461
        obtain ⟨hfz10_0, hfz10_1, hfz10_2, hfz10_3⟩ := zf4 BK461
        go_wp2_with (first | ((with_reducible refine gate_callee (f := 36) rfl ?_); refine goesL_ (some 14) rfl rfl Tryz.func36 (by kernel_rfl) rfl #[.int .i64 a1, .int .i64 0, .int .i64 (wrap64 (a0_0 - 1))] rfl zM ?_; (with_reducible refine (impl_within.calls a1 0 (wrap64 (a0_0 - 1)) true _ A6.out).mono ?_); rintro e w' ⟨rfl, ⟨nd, rfl⟩⟩; refine ⟨_, rfl, ?_⟩) | (go_at_call 36; (with_reducible refine (impl_within.calls a2 0 (wrap64 (a0_0 - 1)) true _ A8.out).mono ?_); rintro e w' ⟨rfl, ⟨nd, rfl⟩⟩))
        go_meet
        case rel => exact ⟨_, ((a1 != a2)), (zF), H', ⟨by first | omega | exact Nat.le_refl _⟩, ⟨zB BK461.out⟩, ⟨zH1 HB.out GE461.out⟩⟩
      · replace c9 := Bool.eq_false_iff.mpr c9
        subst c9
        have H1 : (impl_AreJoined.j0 k a1 a2 false a0_0 a0_1 a0_2 a0_3) = some (r1, r2) := by rw [if_neg (show ¬ (false = true) by decide)] at H; exact H
        clear H
        have H := H1
        clear H1
        have H' := Aside0.mk H
        clear H
        obtain ⟨hcz11_0, hcz11_1, hcz11_2, hcz11_3⟩ := zc4 BK461
        obtain ⟨hfz11_0, hfz11_1, hfz11_2, hfz11_3⟩ := zf4 BK461
        go_wp2_with (first | ((with_reducible refine gate_callee (f := 36) rfl ?_); refine goesL_ (some 14) rfl rfl Tryz.func36 (by kernel_rfl) rfl #[.int .i64 a1, .int .i64 0, .int .i64 (wrap64 (a0_0 - 1))] rfl zM ?_; (with_reducible refine (impl_within.calls a1 0 (wrap64 (a0_0 - 1)) true _ A6.out).mono ?_); rintro e w' ⟨rfl, ⟨nd, rfl⟩⟩; refine ⟨_, rfl, ?_⟩) | (go_at_call 36; (with_reducible refine (impl_within.calls a2 0 (wrap64 (a0_0 - 1)) false _ A8.out).mono ?_); rintro e w' ⟨rfl, ⟨nd, rfl⟩⟩))
        go_meet
        case rel => exact ⟨_, (false), (zF), H', ⟨by first | omega | exact Nat.le_refl _⟩, ⟨zB BK461.out⟩, ⟨zH1 HB.out GE461.out⟩⟩
    · replace c7 := Bool.eq_false_iff.mpr c7
      subst c7
      have H1 : (impl_AreJoined.j0 k a1 a2 false a0_0 a0_1 a0_2 a0_3) = some (r1, r2) := by rw [if_neg (show ¬ (false = true) by decide)] at H; exact H
      clear H
      have H := H1
      clear H1
      have H' := Aside0.mk H
      clear H
      obtain ⟨hcz12_0, hcz12_1, hcz12_2, hcz12_3⟩ := zc4 BK461
      obtain ⟨hfz12_0, hfz12_1, hfz12_2, hfz12_3⟩ := zf4 BK461
      go_wp2_with (first | ((with_reducible refine gate_callee (f := 36) rfl ?_); refine goesL_ (some 14) rfl rfl Tryz.func36 (by kernel_rfl) rfl #[.int .i64 a1, .int .i64 0, .int .i64 (wrap64 (a0_0 - 1))] rfl zM ?_; (with_reducible refine (impl_within.calls a1 0 (wrap64 (a0_0 - 1)) false _ A6.out).mono ?_); rintro e w' ⟨rfl, ⟨nd, rfl⟩⟩; refine ⟨_, rfl, ?_⟩))
      go_meet
      case rel => exact ⟨_, (false), (zF), H', ⟨by first | omega | exact Nat.le_refl _⟩, ⟨zB BK461.out⟩, ⟨zH1 HB.out GE461.out⟩⟩
  case rest =>
    clear HC4
    try clear c2
    try clear p2
    try clear c3
    try clear p6
    try clear c7
    try clear c9
    try clear hcz10_0
    try clear hcz10_1
    try clear hcz10_2
    try clear hcz10_3
    try clear hcz11_0
    try clear hcz11_1
    try clear hcz11_2
    try clear hcz11_3
    try clear hcz12_0
    try clear hcz12_1
    try clear hcz12_2
    try clear hcz12_3
    try clear hfz10_0
    try clear hfz10_1
    try clear hfz10_2
    try clear hfz10_3
    try clear hfz11_0
    try clear hfz11_1
    try clear hfz11_2
    try clear hfz11_3
    try clear hfz12_0
    try clear hfz12_1
    try clear hfz12_2
    try clear hfz12_3
    obtain ⟨kq, x8_3, rfl, HA, HJ3, BK461, HB⟩ := hcut
    cases kq with
    | zero => exact absurd HA.out (by simp [impl_AreJoined.j0])
    | succ kj3 =>
      have H := HA.out
      clear HA
      simp only [impl_AreJoined.j0] at H
      obtain ⟨t464, A13, H⟩ := zb H
      obtain ⟨y465, hy465⟩ : ∃ y_ : List (S58), y_ = (([(⟨t464, 1⟩ : S58), (⟨x8_3, 2⟩ : S58)] : List (S58))) := ⟨_, rfl⟩
      replace H : ((impl_first.f kj3 y465).bind fun t468 => (if t468 = 0 then ((impl_Field_joins.f a0_0 a0_1 a0_2 a0_3 a1 a2).bind fun t469 => (some (t469, 0))) else (some (false, t468)))) = some (r1, r2) := by first | (rw [hy465]; with_reducible exact H) | (have H2_ := (Option.bind_some _ _).symm.trans H; rw [hy465]; with_reducible exact H2_) | (have H2_ := (Option.bind_some _ _).symm.trans H; with_reducible exact H2_) | with_reducible exact H | (rw [hy465]; exact H) | exact H
      have Ny465 := Aside0.mk hy465
      clear hy465
      obtain ⟨t468, A14, H⟩ := zb H
      by_cases c15 : t468 = 0
      · rw [if_pos c15] at H
        have c15b0 := zq1 c15
        have c15b1 := zq2 c15
        clear c15
        obtain ⟨t469, A16, H⟩ := zb H
        simp only [Option.some.injEq, Prod.mk.injEq] at H
        obtain ⟨rfl, rfl⟩ := H
        obtain ⟨hcz17_0, hcz17_1, hcz17_2, hcz17_3⟩ := zc4 BK461
        obtain ⟨hfz17_0, hfz17_1, hfz17_2, hfz17_3⟩ := zf4 BK461
        go_wp2_with (first | ((with_reducible refine gate_callee (f := 11) rfl ?_); refine goesL_ (some 28) rfl rfl Tryz.func11 (by kernel_rfl) rfl #[.agg #[.int .i64 a0_0, .int .i64 a0_1, .int .i64 a0_2, .int .i64 a0_3]] rfl zM ?_; (with_reducible refine (impl_IsField.calls a0_0 a0_1 a0_2 a0_3 t464 _ A13.out).mono ?_); rintro e w18 ⟨rfl, hb⟩; refine ⟨_, rfl, ?_⟩; refine zA2 (zY BK461.out hb) (below_step (zH1 HB.out GE461.out) hb) ?_; clear BK461 HB; intro BK461 HB; (try clear hb); (try clear hb2); (try clear hk); (try clear hi)) | ((with_reducible refine gate_dst (N := 32) rfl ?_); refine Kd.R_lit k58 _ 58 ?hg (N := 32) ?hd (xs := ([(⟨t464, 1⟩ : S58), (⟨x8_3, 2⟩ : S58)] : List (S58))) (inner := [.bool t464, .int .i64 1, .bool x8_3, .int .i64 2]) (ok := fun _ => True) (okp := fun _ => True) ?hr ?hp (fun _ hk => hk) trivial (Below.refl _ _) (Nat.le_refl _) (by simp) ?_; (case hd => rfl); (case hg => rfl); (case hr => first | (go_simp; done) | (go_simp; rfl)); (case hp => exact (Reps.c2 (show Kd.M k58 _ _ _ (⟨t464, 1⟩ : S58) [.bool t464, .int .i64 1] from (k58_mkM _ _ _ (⟨t464, 1⟩ : S58) )) (Reps.c2 (show Kd.M k58 _ _ _ (⟨x8_3, 2⟩ : S58) [.bool x8_3, .int .i64 2] from (k58_mkM _ _ _ (⟨x8_3, 2⟩ : S58) )) (Reps.none _ _)))); intro v466 w19 ho20 hb hg_ hnew_; clear hg_ hnew_; (first | rw [← Ny465.out] at ho20 | (simp only [Int.reduceToNat] at ho20; rw [← Ny465.out] at ho20)); refine zA3 (Kd.R_lower ho20 (below_size (zH1 HB.out GE461.out))) (zY BK461.out hb) (below_step (zH1 HB.out GE461.out) hb) ?_; clear BK461 HB; intro HO467 BK461 HB; clear hb ho20; obtain ⟨Ao21, co21, eo21⟩ := Kd.R_slice HO467.out; subst eo21) | ((with_reducible refine gate_callee (f := 35) rfl ?_); refine goesL_ (some 33) rfl rfl Tryz.func35 (by kernel_rfl) rfl #[.slice Ao21 y465.length co21] rfl zM ?_; (with_reducible refine (impl_first.calls kj3 _ _ y465 t468 _ ?side1 ?side2 A14.out).mono ?_); (case side1 => repeat (first | exact (Kd.R_reads' HO467.out).2.2 | (with_reducible refine Kd.C_alloc ?_ _) | (with_reducible refine Kd.C_drewN ?_ _) | (with_reducible refine Kd.C_drew ?_))); (case side2 => exact (Kd.R_reads' HO467.out).2.1); rintro e w22 ⟨rfl, hb⟩; refine ⟨_, rfl, ?_⟩; refine zA3 (Kd.R_below (zR HO467.out) hb) (zY BK461.out hb) (below_step (zH1 HB.out GE461.out) hb) ?_; clear HO467 BK461 HB; intro HO467 BK461 HB; (try clear hb); (try clear hb2); (try clear hk); (try clear hi); obtain ⟨hcz23_0, hcz23_1, hcz23_2, hcz23_3⟩ := zc4 BK461; obtain ⟨hfz23_0, hfz23_1, hfz23_2, hfz23_3⟩ := zf4 BK461) | ((with_reducible refine gate_callee (f := 53) rfl ?_); refine goesL_ (some 40) rfl rfl Tryz.func53 (by kernel_rfl) rfl #[.agg #[.int .i64 a0_0, .int .i64 a0_1, .int .i64 a0_2, .int .i64 a0_3], .int .i64 a1, .int .i64 a2] rfl zM ?_; (with_reducible refine (impl_Field_joins.calls a0_0 a0_1 a0_2 a0_3 a1 a2 t469 _ A16.out).mono ?_); rintro e w24 ⟨rfl, hb⟩; refine ⟨_, rfl, ?_⟩; refine zA3 (Kd.R_below (zR HO467.out) hb) (zY BK461.out hb) (below_step (zH1 HB.out GE461.out) hb) ?_; clear HO467 BK461 HB; intro HO467 BK461 HB; (try clear hb); (try clear hb2); (try clear hk); (try clear hi)))
        go_ret2
        exact ⟨zE, zH1 HB.out GE461.out⟩
      · rw [if_neg c15] at H
        have c15b0 := zq3 c15
        have c15b1 := zq4 c15
        simp only [Option.some.injEq, Prod.mk.injEq] at H
        obtain ⟨rfl, rfl⟩ := H
        obtain ⟨hcz25_0, hcz25_1, hcz25_2, hcz25_3⟩ := zc4 BK461
        obtain ⟨hfz25_0, hfz25_1, hfz25_2, hfz25_3⟩ := zf4 BK461
        go_wp2_with (first | ((with_reducible refine gate_callee (f := 11) rfl ?_); refine goesL_ (some 28) rfl rfl Tryz.func11 (by kernel_rfl) rfl #[.agg #[.int .i64 a0_0, .int .i64 a0_1, .int .i64 a0_2, .int .i64 a0_3]] rfl zM ?_; (with_reducible refine (impl_IsField.calls a0_0 a0_1 a0_2 a0_3 t464 _ A13.out).mono ?_); rintro e w26 ⟨rfl, hb⟩; refine ⟨_, rfl, ?_⟩; refine zA2 (zY BK461.out hb) (below_step (zH1 HB.out GE461.out) hb) ?_; clear BK461 HB; intro BK461 HB; (try clear hb); (try clear hb2); (try clear hk); (try clear hi)) | ((with_reducible refine gate_dst (N := 32) rfl ?_); refine Kd.R_lit k58 _ 58 ?hg (N := 32) ?hd (xs := ([(⟨t464, 1⟩ : S58), (⟨x8_3, 2⟩ : S58)] : List (S58))) (inner := [.bool t464, .int .i64 1, .bool x8_3, .int .i64 2]) (ok := fun _ => True) (okp := fun _ => True) ?hr ?hp (fun _ hk => hk) trivial (Below.refl _ _) (Nat.le_refl _) (by simp) ?_; (case hd => rfl); (case hg => rfl); (case hr => first | (go_simp; done) | (go_simp; rfl)); (case hp => exact (Reps.c2 (show Kd.M k58 _ _ _ (⟨t464, 1⟩ : S58) [.bool t464, .int .i64 1] from (k58_mkM _ _ _ (⟨t464, 1⟩ : S58) )) (Reps.c2 (show Kd.M k58 _ _ _ (⟨x8_3, 2⟩ : S58) [.bool x8_3, .int .i64 2] from (k58_mkM _ _ _ (⟨x8_3, 2⟩ : S58) )) (Reps.none _ _)))); intro v466 w27 ho28 hb hg_ hnew_; clear hg_ hnew_; (first | rw [← Ny465.out] at ho28 | (simp only [Int.reduceToNat] at ho28; rw [← Ny465.out] at ho28)); refine zA3 (Kd.R_lower ho28 (below_size (zH1 HB.out GE461.out))) (zY BK461.out hb) (below_step (zH1 HB.out GE461.out) hb) ?_; clear BK461 HB; intro HO467 BK461 HB; clear hb ho28; obtain ⟨Ao29, co29, eo29⟩ := Kd.R_slice HO467.out; subst eo29) | ((with_reducible refine gate_callee (f := 35) rfl ?_); refine goesL_ (some 33) rfl rfl Tryz.func35 (by kernel_rfl) rfl #[.slice Ao29 y465.length co29] rfl zM ?_; (with_reducible refine (impl_first.calls kj3 _ _ y465 t468 _ ?side1 ?side2 A14.out).mono ?_); (case side1 => repeat (first | exact (Kd.R_reads' HO467.out).2.2 | (with_reducible refine Kd.C_alloc ?_ _) | (with_reducible refine Kd.C_drewN ?_ _) | (with_reducible refine Kd.C_drew ?_))); (case side2 => exact (Kd.R_reads' HO467.out).2.1); rintro e w30 ⟨rfl, hb⟩; refine ⟨_, rfl, ?_⟩; refine zA3 (Kd.R_below (zR HO467.out) hb) (zY BK461.out hb) (below_step (zH1 HB.out GE461.out) hb) ?_; clear HO467 BK461 HB; intro HO467 BK461 HB; (try clear hb); (try clear hb2); (try clear hk); (try clear hi)))
        go_ret2
        exact ⟨zE, zH1 HB.out GE461.out⟩

/-! ### spec_l05Given: function 60 -/
def spec_l05Given.f (k : Nat) (l0 : List Int) : Option (Int × Int × Int × Int × Int × Int) := (spec_l01From.f k l0).bind fun bt471 => ((spec_l05With.f k bt471.1 bt471.2.1 bt471.2.2).bind fun bt475 => ((spec_l05Bad.f bt471.1 bt475.2.2.2.2.2.2.1 bt475.2.2.2.2.2.2.2 bt475.1 bt475.2.1 bt475.2.2.1 bt475.2.2.2.1).bind fun bt484 => (some (bt484.1, bt484.2.1, bt484.2.2.1, bt484.2.2.2.1, bt475.2.2.2.2.1, bt475.2.2.2.2.2.1))))
set_option maxHeartbeats 8000000 in
set_option maxRecDepth 100000 in
theorem spec_l05Given.calls (k : Nat) (A0 : Option Addr) (c0 : Nat) (l0 : List Int) (r1 : Int) (r2 : Int) (r3 : Int) (r4 : Int) (r5 : Int) (r6 : Int) (w : World) (hr0 : Kd.C (Kd.int .u8) w A0 l0.length l0) (hc0 : l0.length ≤ c0) (h : spec_l05Given.f k l0 = some (r1, r2, r3, r4, r5, r6)) :
    Calls Tryz.prog 60 #[.slice A0 l0.length c0] w fun e w' => e = .returned (.tuple #[.agg #[.int .i64 r1, .int .i64 r2, .int .i64 r3, .int .i64 r4], .int .i64 r5, .int .i64 r6]) ∧ Below w.heap.size w w' := by
  have hu25 := Tryz.underlying25
  have HR0 := Aside0.mk hr0
  have HC0 := Aside0.mk hc0
  clear hr0 hc0
  have HB := Aside0.mk (Below.refl w.heap.size w)
  have H : ((spec_l01From.f k l0).bind fun bt471 => ((spec_l05With.f k bt471.1 bt471.2.1 bt471.2.2).bind fun bt475 => ((spec_l05Bad.f bt471.1 bt475.2.2.2.2.2.2.1 bt475.2.2.2.2.2.2.2 bt475.1 bt475.2.1 bt475.2.2.1 bt475.2.2.2.1).bind fun bt484 => (some (bt484.1, bt484.2.1, bt484.2.2.1, bt484.2.2.2.1, bt475.2.2.2.2.1, bt475.2.2.2.2.2.1))))) = some (r1, r2, r3, r4, r5, r6) := h
  clear h
  obtain ⟨⟨t471, t472, t473⟩, A2, H⟩ := zb H; (try dsimp only at H)
  obtain ⟨⟨t475, t476, t477, t478, t479, t480, t481, t482⟩, A3, H⟩ := zb H; (try dsimp only at H)
  obtain ⟨⟨t484, t485, t486, t487, t488, t489⟩, A4, H⟩ := zb H; (try dsimp only at H)
  simp only [Option.some.injEq, Prod.mk.injEq] at H
  obtain ⟨rfl, rfl, rfl, rfl, rfl, rfl⟩ := H
  go_enter Tryz.func60, Tryz.ntmps60
  go_wp2_with (first | ((with_reducible refine gate_dst (N := 2) rfl ?_); refine zX 2 #[.int .i64 0, .int .i64 0, .int .i64 0, .int .i64 0] 25 ?_; intro gb470 hg w5 hbox hb; refine zA4 (below_step (zH HB.out) hb) (hbox) ((zS hg (below_size (zH HB.out)) : w.heap.size ≤ gb470)) ((zS hg (below_size (zH HB.out)) : w.heap.size ≤ gb470)) ?_; clear HB; intro HB BK470 GW470 GE470; clear hb hbox hg) | ((with_reducible refine gate_callee (f := 31) rfl ?_); refine goesL_ (some 10) rfl rfl Tryz.func31 (by kernel_rfl) rfl #[.slice A0 l0.length c0] rfl zM ?_; (with_reducible refine (spec_l01From.calls k _ _ l0 t471 t472 t473 w _ ?side1 ?side2 ?side3 A2.out).mono ?_); (case side1 => exact zH1 HB.out GE470.out); (case side2 => exact HR0.out); (case side3 => exact HC0.out); rintro e w6 ⟨g474, rfl, hi, hb, hb2⟩; refine ⟨_, rfl, ?_⟩; refine zA5 (zY BK470.out hb2) (hb) (hi) (IsS85.ne_blk hi (zY BK470.out hb2) (by decide)) (Ne.symm (IsS85.ne_blk hi (zY BK470.out hb2) (by decide))) ?_; clear BK470 HB; intro BK470 HB HI474 NB474_470 NB470_474; (try clear hb); (try clear hb2); (try clear hk); (try clear hi)) | ((with_reducible refine gate_callee (f := 32) rfl ?_); refine goesL_ (some 13) rfl rfl Tryz.func32 (by kernel_rfl) rfl #[.pointer (some ⟨g474, 0, none⟩)] rfl zM ?_; (with_reducible refine (spec_l05With.calls k g474 t471 t472 t473 t475 t476 t477 t478 t479 t480 t481 t482 w _ ?side1 ?side2 A3.out).mono ?_); (case side1 => exact zI1 HI474.out NB474_470.out); (case side2 => exact zH2 HB.out (IsS85.ge HI474.out) GE470.out); rintro e w7 ⟨rfl, hi, hb, hk⟩; refine ⟨_, rfl, ?_⟩; refine zA3 (zYk hk BK470.out NB470_474.out) (hb) (hi) ?_; clear BK470 HB HI474; intro BK470 HB HI474; (try clear hb); (try clear hb2); (try clear hk); (try clear hi)) | ((with_reducible refine gate_dst (N := 6) rfl ?_); refine zX 6 #[.int .i64 0, .int .i64 0, .int .i64 0, .int .i64 0] 25 ?_; intro gb483 hg w8 hbox hb; refine zA10 (zY BK470.out hb) (IsS85.below (zI1 HI474.out NB474_470.out) hb) (below_step (zH2 HB.out (IsS85.ge HI474.out) GE470.out) hb) (hbox) ((by rw [hg]; exact (below_size (zH2 HB.out (IsS85.ge HI474.out) GE470.out)) : w.heap.size ≤ gb483)) ((by rw [hg]; exact (below_size (zH2 HB.out (IsS85.ge HI474.out) GE470.out)) : w.heap.size ≤ gb483)) ((zl hg (blk_lt (g := gb470) (o := .cells #[.int .i64 0, .int .i64 0, .int .i64 0, .int .i64 0] 25 (0, 0)) (zB BK470.out)) : gb470 ≠ gb483)) ((zg hg (blk_lt (g := gb470) (o := .cells #[.int .i64 0, .int .i64 0, .int .i64 0, .int .i64 0] 25 (0, 0)) (zB BK470.out)) : gb483 ≠ gb470)) ((zl hg (IsS85.lt (show IsS85 w _ g474 t471 t481 t482 from zI1 HI474.out NB474_470.out)) : g474 ≠ gb483)) ((zg hg (IsS85.lt (show IsS85 w _ g474 t471 t481 t482 from zI1 HI474.out NB474_470.out)) : gb483 ≠ g474)) ?_; clear BK470 HI474 HB; intro BK470 HI474 HB BK483 GW483 GE483 NB470_483 NB483_470 NB474_483 NB483_474; clear hb hbox hg; have hnb9 := NB483_470.out; have hnc9 := NB470_483.out; have hnb10 := NB483_474.out; have hnc10 := NB474_483.out; obtain ⟨hcz11_0, hcz11_1, hcz11_2, hcz11_3⟩ := zc4 BK483; obtain ⟨hfz11_0, hfz11_1, hfz11_2, hfz11_3⟩ := zf4 BK483) | ((with_reducible refine gate_callee (f := 34) rfl ?_); refine goesL_ (some 19) rfl rfl Tryz.func34 (by kernel_rfl) rfl #[.pointer (some ⟨g474, 0, none⟩), .agg #[.int .i64 t475, .int .i64 t476, .int .i64 t477, .int .i64 t478]] rfl zM ?_; (with_reducible refine (spec_l05Bad.calls g474 t471 t481 t482 t475 t476 t477 t478 t484 t485 t486 t487 t488 t489 w _ ?side1 ?side2 A4.out).mono ?_); (case side1 => exact zI2 HI474.out NB474_470.out NB474_483.out); (case side2 => exact zH3 HB.out (IsS85.ge HI474.out) GE470.out GE483.out); rintro e w12 ⟨rfl, hi, hb, hk⟩; refine ⟨_, rfl, ?_⟩; refine zA4 (KeepBut.blk hk (g' := gb470) (o := .cells #[.int .i64 0, .int .i64 0, .int .i64 0, .int .i64 0] 25 (0, 0)) (zQ1 BK470.out NB470_483.out) NB470_474.out (by simp)) (KeepBut.blk hk (g' := gb483) (o := .cells #[.int .i64 t475, .int .i64 t476, .int .i64 t477, .int .i64 t478] 25 (0, 0)) (zQ BK483.out) NB483_474.out (by simp)) (hb) (hi) ?_; clear BK470 BK483 HB HI474; intro BK470 BK483 HB HI474; (try clear hb); (try clear hb2); (try clear hk); (try clear hi); have hnb13 := NB470_474.out; have hnc13 := NB474_470.out; obtain ⟨hcz14_0, hcz14_1, hcz14_2, hcz14_3⟩ := zc4 BK470; obtain ⟨hfz14_0, hfz14_1, hfz14_2, hfz14_3⟩ := zf4 BK470))
  refine bodyPost_ret (results_ctt rfl _ _ gb470 25 #[.int .i64 t484, .int .i64 t485, .int .i64 t486, .int .i64 t487] (0, 0) _ rfl (zQ BK470.out) Tryz.underlying25 rfl (by kernel_rfl)) rfl ?_
  exact ⟨zE, zH3 HB.out (IsS85.ge HI474.out) GE470.out GE483.out⟩

/-! ### spec_DrawExchangeSides: function 21 -/
def spec_DrawExchangeSides.f (k : Nat) (l0 : List Int) : Option (Int × Int × Int × Int) := (spec_l05Given.f k l0).bind fun bt491 => (some (bt491.1, bt491.2.1, bt491.2.2.1, bt491.2.2.2.1))
set_option maxHeartbeats 8000000 in
set_option maxRecDepth 100000 in
theorem spec_DrawExchangeSides.calls (k : Nat) (A0 : Option Addr) (c0 : Nat) (l0 : List Int) (r1 : Int) (r2 : Int) (r3 : Int) (r4 : Int) (w : World) (hr0 : Kd.C (Kd.int .u8) w A0 l0.length l0) (hc0 : l0.length ≤ c0) (h : spec_DrawExchangeSides.f k l0 = some (r1, r2, r3, r4)) :
    Calls Tryz.prog 21 #[.slice A0 l0.length c0] w fun e w' => e = .returned (.agg #[.int .i64 r1, .int .i64 r2, .int .i64 r3, .int .i64 r4]) ∧ Below w.heap.size w w' := by
  have hu25 := Tryz.underlying25
  have HR0 := Aside0.mk hr0
  have HC0 := Aside0.mk hc0
  clear hr0 hc0
  have HB := Aside0.mk (Below.refl w.heap.size w)
  have H : ((spec_l05Given.f k l0).bind fun bt491 => (some (bt491.1, bt491.2.1, bt491.2.2.1, bt491.2.2.2.1))) = some (r1, r2, r3, r4) := h
  clear h
  obtain ⟨⟨t491, t492, t493, t494, t495, t496⟩, A2, H⟩ := zb H; (try dsimp only at H)
  simp only [Option.some.injEq, Prod.mk.injEq] at H
  obtain ⟨rfl, rfl, rfl, rfl⟩ := H
  go_enter Tryz.func21, Tryz.ntmps21
  go_wp2_with (first | ((with_reducible refine gate_dst (N := 2) rfl ?_); refine zX 2 #[.int .i64 0, .int .i64 0, .int .i64 0, .int .i64 0] 25 ?_; intro gb490 hg w3 hbox hb; refine zA4 (below_step (zH HB.out) hb) (hbox) ((zS hg (below_size (zH HB.out)) : w.heap.size ≤ gb490)) ((zS hg (below_size (zH HB.out)) : w.heap.size ≤ gb490)) ?_; clear HB; intro HB BK490 GW490 GE490; clear hb hbox hg) | ((with_reducible refine gate_callee (f := 60) rfl ?_); refine goesL_ (some 8) rfl rfl Tryz.func60 (by kernel_rfl) rfl #[.slice A0 l0.length c0] rfl zM ?_; (with_reducible refine (spec_l05Given.calls k _ _ l0 t491 t492 t493 t494 t495 t496 _ ?side1 ?side2 A2.out).mono ?_); (case side1 => repeat (first | exact (Kd.C_below HR0.out HB.out) | (with_reducible refine Kd.C_alloc ?_ _) | (with_reducible refine Kd.C_drewN ?_ _) | (with_reducible refine Kd.C_drew ?_))); (case side2 => exact HC0.out); rintro e w4 ⟨rfl, hb⟩; refine ⟨_, rfl, ?_⟩; refine zA2 (zY BK490.out hb) (below_step (zH1 HB.out GE490.out) hb) ?_; clear BK490 HB; intro BK490 HB; (try clear hb); (try clear hb2); (try clear hk); (try clear hi)) | ((with_reducible refine gate_dst (N := 3) rfl ?_); refine zX 3 #[.int .i64 0, .int .i64 0, .int .i64 0, .int .i64 0] 25 ?_; intro gb497 hg w5 hbox hb; refine zA7 (zY BK490.out hb) (below_step (zH1 HB.out GE490.out) hb) (hbox) ((zS hg (below_size (zH1 HB.out GE490.out)) : w.heap.size ≤ gb497)) ((zS hg (below_size (zH1 HB.out GE490.out)) : w.heap.size ≤ gb497)) ((zl hg (blk_lt (g := gb490) (o := .cells #[.int .i64 0, .int .i64 0, .int .i64 0, .int .i64 0] 25 (0, 0)) (zB BK490.out)) : gb490 ≠ gb497)) ((zg hg (blk_lt (g := gb490) (o := .cells #[.int .i64 0, .int .i64 0, .int .i64 0, .int .i64 0] 25 (0, 0)) (zB BK490.out)) : gb497 ≠ gb490)) ?_; clear BK490 HB; intro BK490 HB BK497 GW497 GE497 NB490_497 NB497_490; clear hb hbox hg; have hnb6 := NB497_490.out; have hnc6 := NB490_497.out; obtain ⟨hcz7_0, hcz7_1, hcz7_2, hcz7_3⟩ := zc4 BK497; obtain ⟨hfz7_0, hfz7_1, hfz7_2, hfz7_3⟩ := zf4 BK497; obtain ⟨hcz8_0, hcz8_1, hcz8_2, hcz8_3⟩ := zc4 BK490; obtain ⟨hfz8_0, hfz8_1, hfz8_2, hfz8_3⟩ := zf4 BK490))
  refine bodyPost_ret (results_cell_row rfl _ _ gb490 25 #[.int .i64 t491, .int .i64 t492, .int .i64 t493, .int .i64 t494] (0, 0) _ rfl (zQ1 BK490.out NB490_497.out) Tryz.underlying25 rfl (by kernel_rfl)) rfl ?_
  exact ⟨zE, zH2 HB.out GE490.out GE497.out⟩

end Go.Proofs.YtlmohkbimnhecaaGreatDoor.Q
