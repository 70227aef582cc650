-- Written by a program of this session (wip/tools/px.sh) over the seat's translation; Lean checks it.
import Derived.Test.YtnecgdlhkbbpgaaQ0
import Derived.Test.YtnecgdlhkbbpgaaQ1
import Derived.Test.YtnecgdlhkbbpgaaQ3
import Derived.Test.YtnecgdlhkbbpgaaQ6
namespace Go.Proofs.Ytnecgdlhkbbpgaa.Q
open Go.RowKit Go.Proofs.YtnecgdlhkbbpgaaW.PrintWords Go.Proofs.YtnecgdlhkbbpgaaW.PrintLast Go.Proofs.YtnecgdlhkbbpgaaW.PrintMore
attribute [local go_sem] max2_int min2_int max_two min_two max_three min_three max_four min_four   -- for this text's walks alone
set_option linter.unusedVariables false
set_option linter.unusedSimpArgs false

/-! ### spec_NeedOf: function 31 -/
mutual
def spec_NeedOf.l0 : Nat → Int → Int → List Int → Int → Int → List Int → Option (Int × Int)
  | 0, _, _, _, _, _, _ => none
  | k + 1, x1, x6, x7, x8, x457000, x457001 => if x8 < (x457001.length : Int) then (if x7.length < 17592186044416 then (spec_NeedOf.l0 k x1 x6 (x7 ++ [(-1)]) (wrap64 (x8 + 1)) x457000 x457001) else (none)) else (spec_NeedOf.l1 k x1 x6 x7 true x457000 x457001)
def spec_NeedOf.l1 : Nat → Int → Int → List Int → Bool → Int → List Int → Option (Int × Int)
  | 0, _, _, _, _, _, _ => none
  | k + 1, x1, x6, x7, x9, x457000, x457001 => if x9 = true then (spec_NeedOf.l2 k x1 x6 x7 false 0 x457000 x457001) else (spec_NeedOf.l4 k x1 x6 x7 (-1) 0)
def spec_NeedOf.l2 : Nat → Int → Int → List Int → Bool → Int → Int → List Int → Option (Int × Int)
  | 0, _, _, _, _, _, _, _ => none
  | k + 1, x1, x6, x7, x9, x10, x457000, x457001 => if x10 < (wrap64 (x6 * x6)) then (if 0 ≤ x10 then (if x10 < (x457001.length : Int) then (if (rd x457001 x10) = (wrap64 (3 - x1)) then (spec_NeedOf.l2 k x1 x6 x7 x9 (wrap64 (x10 + 1)) x457000 x457001) else (if (rd x457001 x10) = 0 then (spec_NeedOf.j3 k x1 x6 x7 x9 x10 1 (-1) x457000 x457001) else (spec_NeedOf.j3 k x1 x6 x7 x9 x10 0 (-1) x457000 x457001))) else (none)) else (none)) else (spec_NeedOf.l1 k x1 x6 x7 x9 x457000 x457001)
def spec_NeedOf.j3 : Nat → Int → Int → List Int → Bool → Int → Int → Int → Int → List Int → Option (Int × Int)
  | 0, _, _, _, _, _, _, _, _, _ => none
  | k + 1, x1, x6, x7, x9, x10, x11, x12, x457000, x457001 => if x1 = 1 then (if x10 < x6 then (spec_NeedOf.j4 k x1 x6 x7 x9 x10 x11 x12 true x457000 x457001) else (if x1 = 2 then (if x6 = 0 then (none) else (spec_NeedOf.j4 k x1 x6 x7 x9 x10 x11 x12 ((Int.tmod x10 x6) == 0) x457000 x457001)) else (spec_NeedOf.j4 k x1 x6 x7 x9 x10 x11 x12 false x457000 x457001))) else (if x1 = 2 then (if x6 = 0 then (none) else (spec_NeedOf.j4 k x1 x6 x7 x9 x10 x11 x12 ((Int.tmod x10 x6) == 0) x457000 x457001)) else (spec_NeedOf.j4 k x1 x6 x7 x9 x10 x11 x12 false x457000 x457001))
def spec_NeedOf.j4 : Nat → Int → Int → List Int → Bool → Int → Int → Int → Bool → Int → List Int → Option (Int × Int)
  | 0, _, _, _, _, _, _, _, _, _, _ => none
  | k + 1, x1, x6, x7, x9, x10, x11, x12, x79, x457000, x457001 => if x79 = true then (spec_NeedOf.j5 k x1 x6 x7 x9 x10 x11 x11 x457000 x457001) else (spec_NeedOf.j5 k x1 x6 x7 x9 x10 x11 x12 x457000 x457001)
def spec_NeedOf.j5 : Nat → Int → Int → List Int → Bool → Int → Int → Int → Int → List Int → Option (Int × Int)
  | 0, _, _, _, _, _, _, _, _, _ => none
  | k + 1, x1, x6, x7, x9, x10, x11, x12, x457000, x457001 => (spec_l06Near.f k x6 x10).bind fun t467 => (spec_NeedOf.l3 k x1 x6 x7 x9 x10 x11 x12 t467 0 x457000 x457001)
def spec_NeedOf.l3 : Nat → Int → Int → List Int → Bool → Int → Int → Int → List Int → Int → Int → List Int → Option (Int × Int)
  | 0, _, _, _, _, _, _, _, _, _, _, _ => none
  | k + 1, x1, x6, x7, x9, x10, x11, x12, x13, x14, x457000, x457001 => if x14 < (x13.length : Int) then (if 0 ≤ x14 then (if 0 ≤ (rd x13 x14) then (if (rd x13 x14) < (x7.length : Int) then (if (rd x7 (rd x13 x14)) ≥ 0 then (if x12 < 0 then (spec_NeedOf.l3 k x1 x6 x7 x9 x10 x11 (wrap64 ((rd x7 (rd x13 x14)) + x11)) x13 (wrap64 (x14 + 1)) x457000 x457001) else (if (wrap64 ((rd x7 (rd x13 x14)) + x11)) < x12 then (spec_NeedOf.l3 k x1 x6 x7 x9 x10 x11 (wrap64 ((rd x7 (rd x13 x14)) + x11)) x13 (wrap64 (x14 + 1)) x457000 x457001) else (spec_NeedOf.l3 k x1 x6 x7 x9 x10 x11 x12 x13 (wrap64 (x14 + 1)) x457000 x457001))) else (spec_NeedOf.l3 k x1 x6 x7 x9 x10 x11 x12 x13 (wrap64 (x14 + 1)) x457000 x457001)) else (none)) else (none)) else (none)) else (if x12 ≥ 0 then (if 0 ≤ x10 then (if x10 < (x7.length : Int) then (if (rd x7 x10) < 0 then (spec_NeedOf.l2 k x1 x6 (x7.set (x10 : Int).toNat x12) true (wrap64 (x10 + 1)) x457000 x457001) else (if x12 < (rd x7 x10) then (spec_NeedOf.l2 k x1 x6 (x7.set (x10 : Int).toNat x12) true (wrap64 (x10 + 1)) x457000 x457001) else (spec_NeedOf.l2 k x1 x6 x7 x9 (wrap64 (x10 + 1)) x457000 x457001))) else (none)) else (none)) else (spec_NeedOf.l2 k x1 x6 x7 x9 (wrap64 (x10 + 1)) x457000 x457001))
def spec_NeedOf.l4 : Nat → Int → Int → List Int → Int → Int → Option (Int × Int)
  | 0, _, _, _, _, _ => none
  | k + 1, x1, x6, x7, x16, x17 => if x17 < x6 then (if x1 = 2 then (if 0 ≤ (wrap64 ((wrap64 ((wrap64 (x6 * x17)) + x6)) - 1)) then (if (wrap64 ((wrap64 ((wrap64 (x6 * x17)) + x6)) - 1)) < (x7.length : Int) then (if (rd x7 (wrap64 ((wrap64 ((wrap64 (x6 * x17)) + x6)) - 1))) ≥ 0 then (if x16 < 0 then (spec_NeedOf.l4 k x1 x6 x7 (rd x7 (wrap64 ((wrap64 ((wrap64 (x6 * x17)) + x6)) - 1))) (wrap64 (x17 + 1))) else (if (rd x7 (wrap64 ((wrap64 ((wrap64 (x6 * x17)) + x6)) - 1))) < x16 then (spec_NeedOf.l4 k x1 x6 x7 (rd x7 (wrap64 ((wrap64 ((wrap64 (x6 * x17)) + x6)) - 1))) (wrap64 (x17 + 1))) else (spec_NeedOf.l4 k x1 x6 x7 x16 (wrap64 (x17 + 1))))) else (spec_NeedOf.l4 k x1 x6 x7 x16 (wrap64 (x17 + 1)))) else (none)) else (none)) else (if 0 ≤ (wrap64 ((wrap64 (x6 * (wrap64 (x6 - 1)))) + x17)) then (if (wrap64 ((wrap64 (x6 * (wrap64 (x6 - 1)))) + x17)) < (x7.length : Int) then (if (rd x7 (wrap64 ((wrap64 (x6 * (wrap64 (x6 - 1)))) + x17))) ≥ 0 then (if x16 < 0 then (spec_NeedOf.l4 k x1 x6 x7 (rd x7 (wrap64 ((wrap64 (x6 * (wrap64 (x6 - 1)))) + x17))) (wrap64 (x17 + 1))) else (if (rd x7 (wrap64 ((wrap64 (x6 * (wrap64 (x6 - 1)))) + x17))) < x16 then (spec_NeedOf.l4 k x1 x6 x7 (rd x7 (wrap64 ((wrap64 (x6 * (wrap64 (x6 - 1)))) + x17))) (wrap64 (x17 + 1))) else (spec_NeedOf.l4 k x1 x6 x7 x16 (wrap64 (x17 + 1))))) else (spec_NeedOf.l4 k x1 x6 x7 x16 (wrap64 (x17 + 1)))) else (none)) else (none))) else (if x16 < 0 then (some (0, 4)) else (some (x16, 0)))
end
def spec_NeedOf.f (k : Nat) (a0_0 : Int) (l0_1 : List Int) (a1 : Int) : Option (Int × Int) := (spec_l06Is.f k a0_0 l0_1).bind fun t457 => (if t457 = true then ((spec_l01In.f a1 1 2).bind fun t458 => (if t458 = true then (spec_NeedOf.l0 k a1 a0_0 (([] : List Int)) 0 a0_0 l0_1) else (some (0, 2)))) else (some (0, 1)))
theorem spec_NeedOf.mono_l : ∀ k, (∀ y0 y1 y2 y3 y4 y5, LeO (spec_NeedOf.l0 k y0 y1 y2 y3 y4 y5) (spec_NeedOf.l0 (k + 1) y0 y1 y2 y3 y4 y5)) ∧ (∀ y0 y1 y2 y3 y4 y5, LeO (spec_NeedOf.l1 k y0 y1 y2 y3 y4 y5) (spec_NeedOf.l1 (k + 1) y0 y1 y2 y3 y4 y5)) ∧ (∀ y0 y1 y2 y3 y4 y5 y6, LeO (spec_NeedOf.l2 k y0 y1 y2 y3 y4 y5 y6) (spec_NeedOf.l2 (k + 1) y0 y1 y2 y3 y4 y5 y6)) ∧ (∀ y0 y1 y2 y3 y4 y5 y6 y7 y8, LeO (spec_NeedOf.j3 k y0 y1 y2 y3 y4 y5 y6 y7 y8) (spec_NeedOf.j3 (k + 1) y0 y1 y2 y3 y4 y5 y6 y7 y8)) ∧ (∀ y0 y1 y2 y3 y4 y5 y6 y7 y8 y9, LeO (spec_NeedOf.j4 k y0 y1 y2 y3 y4 y5 y6 y7 y8 y9) (spec_NeedOf.j4 (k + 1) y0 y1 y2 y3 y4 y5 y6 y7 y8 y9)) ∧ (∀ y0 y1 y2 y3 y4 y5 y6 y7 y8, LeO (spec_NeedOf.j5 k y0 y1 y2 y3 y4 y5 y6 y7 y8) (spec_NeedOf.j5 (k + 1) y0 y1 y2 y3 y4 y5 y6 y7 y8)) ∧ (∀ y0 y1 y2 y3 y4 y5 y6 y7 y8 y9 y10, LeO (spec_NeedOf.l3 k y0 y1 y2 y3 y4 y5 y6 y7 y8 y9 y10) (spec_NeedOf.l3 (k + 1) y0 y1 y2 y3 y4 y5 y6 y7 y8 y9 y10)) ∧ (∀ y0 y1 y2 y3 y4, LeO (spec_NeedOf.l4 k y0 y1 y2 y3 y4) (spec_NeedOf.l4 (k + 1) y0 y1 y2 y3 y4))
  | 0 => ⟨fun _ _ _ _ _ _ r h => by simp [spec_NeedOf.l0] at h, fun _ _ _ _ _ _ r h => by simp [spec_NeedOf.l1] at h, fun _ _ _ _ _ _ _ r h => by simp [spec_NeedOf.l2] at h, fun _ _ _ _ _ _ _ _ _ r h => by simp [spec_NeedOf.j3] at h, fun _ _ _ _ _ _ _ _ _ _ r h => by simp [spec_NeedOf.j4] at h, fun _ _ _ _ _ _ _ _ _ r h => by simp [spec_NeedOf.j5] at h, fun _ _ _ _ _ _ _ _ _ _ _ r h => by simp [spec_NeedOf.l3] at h, fun _ _ _ _ _ r h => by simp [spec_NeedOf.l4] at h⟩
  | k + 1 => by
    obtain ⟨ih0, ih1, ih2, ih3, ih4, ih5, ih6, ih7⟩ := spec_NeedOf.mono_l k
    refine ⟨?_, ?_, ?_, ?_, ?_, ?_, ?_, ?_⟩
    · intro y0 y1 y2 y3 y4 y5
      unfold spec_NeedOf.l0
      repeat' first
      | (with_reducible exact ih0 _ _ _ _ _ _)
      | (with_reducible exact ih1 _ _ _ _ _ _)
      | (with_reducible exact ih2 _ _ _ _ _ _ _)
      | (with_reducible exact ih3 _ _ _ _ _ _ _ _ _)
      | (with_reducible exact ih4 _ _ _ _ _ _ _ _ _ _)
      | (with_reducible exact ih5 _ _ _ _ _ _ _ _ _)
      | (with_reducible exact ih6 _ _ _ _ _ _ _ _ _ _ _)
      | (with_reducible exact ih7 _ _ _ _ _)
      | (with_reducible exact spec_l06Is.mono _ _ _)
      | (with_reducible exact spec_l06Near.mono _ _ _)
      | (with_reducible exact LeO.refl _)
      | (with_reducible exact LeO.none _)
      | (with_reducible refine LeO.ite ?_ ?_)
      | (with_reducible refine LeO.bind ?_ (fun _ => ?_))
      | exact ih0 _ _ _ _ _ _
      | exact ih1 _ _ _ _ _ _
      | exact ih2 _ _ _ _ _ _ _
      | exact ih3 _ _ _ _ _ _ _ _ _
      | exact ih4 _ _ _ _ _ _ _ _ _ _
      | exact ih5 _ _ _ _ _ _ _ _ _
      | exact ih6 _ _ _ _ _ _ _ _ _ _ _
      | exact ih7 _ _ _ _ _
      | exact spec_l06Is.mono _ _ _
      | exact spec_l06Near.mono _ _ _
      | exact LeO.none _
      | refine LeO.ite ?_ ?_
      | refine LeO.bind ?_ (fun _ => ?_)
    · intro y0 y1 y2 y3 y4 y5
      unfold spec_NeedOf.l1
      repeat' first
      | (with_reducible exact ih0 _ _ _ _ _ _)
      | (with_reducible exact ih1 _ _ _ _ _ _)
      | (with_reducible exact ih2 _ _ _ _ _ _ _)
      | (with_reducible exact ih3 _ _ _ _ _ _ _ _ _)
      | (with_reducible exact ih4 _ _ _ _ _ _ _ _ _ _)
      | (with_reducible exact ih5 _ _ _ _ _ _ _ _ _)
      | (with_reducible exact ih6 _ _ _ _ _ _ _ _ _ _ _)
      | (with_reducible exact ih7 _ _ _ _ _)
      | (with_reducible exact spec_l06Is.mono _ _ _)
      | (with_reducible exact spec_l06Near.mono _ _ _)
      | (with_reducible exact LeO.refl _)
      | (with_reducible exact LeO.none _)
      | (with_reducible refine LeO.ite ?_ ?_)
      | (with_reducible refine LeO.bind ?_ (fun _ => ?_))
      | exact ih0 _ _ _ _ _ _
      | exact ih1 _ _ _ _ _ _
      | exact ih2 _ _ _ _ _ _ _
      | exact ih3 _ _ _ _ _ _ _ _ _
      | exact ih4 _ _ _ _ _ _ _ _ _ _
      | exact ih5 _ _ _ _ _ _ _ _ _
      | exact ih6 _ _ _ _ _ _ _ _ _ _ _
      | exact ih7 _ _ _ _ _
      | exact spec_l06Is.mono _ _ _
      | exact spec_l06Near.mono _ _ _
      | exact LeO.none _
      | refine LeO.ite ?_ ?_
      | refine LeO.bind ?_ (fun _ => ?_)
    · intro y0 y1 y2 y3 y4 y5 y6
      unfold spec_NeedOf.l2
      repeat' first
      | (with_reducible exact ih0 _ _ _ _ _ _)
      | (with_reducible exact ih1 _ _ _ _ _ _)
      | (with_reducible exact ih2 _ _ _ _ _ _ _)
      | (with_reducible exact ih3 _ _ _ _ _ _ _ _ _)
      | (with_reducible exact ih4 _ _ _ _ _ _ _ _ _ _)
      | (with_reducible exact ih5 _ _ _ _ _ _ _ _ _)
      | (with_reducible exact ih6 _ _ _ _ _ _ _ _ _ _ _)
      | (with_reducible exact ih7 _ _ _ _ _)
      | (with_reducible exact spec_l06Is.mono _ _ _)
      | (with_reducible exact spec_l06Near.mono _ _ _)
      | (with_reducible exact LeO.refl _)
      | (with_reducible exact LeO.none _)
      | (with_reducible refine LeO.ite ?_ ?_)
      | (with_reducible refine LeO.bind ?_ (fun _ => ?_))
      | exact ih0 _ _ _ _ _ _
      | exact ih1 _ _ _ _ _ _
      | exact ih2 _ _ _ _ _ _ _
      | exact ih3 _ _ _ _ _ _ _ _ _
      | exact ih4 _ _ _ _ _ _ _ _ _ _
      | exact ih5 _ _ _ _ _ _ _ _ _
      | exact ih6 _ _ _ _ _ _ _ _ _ _ _
      | exact ih7 _ _ _ _ _
      | exact spec_l06Is.mono _ _ _
      | exact spec_l06Near.mono _ _ _
      | exact LeO.none _
      | refine LeO.ite ?_ ?_
      | refine LeO.bind ?_ (fun _ => ?_)
    · intro y0 y1 y2 y3 y4 y5 y6 y7 y8
      unfold spec_NeedOf.j3
      repeat' first
      | (with_reducible exact ih0 _ _ _ _ _ _)
      | (with_reducible exact ih1 _ _ _ _ _ _)
      | (with_reducible exact ih2 _ _ _ _ _ _ _)
      | (with_reducible exact ih3 _ _ _ _ _ _ _ _ _)
      | (with_reducible exact ih4 _ _ _ _ _ _ _ _ _ _)
      | (with_reducible exact ih5 _ _ _ _ _ _ _ _ _)
      | (with_reducible exact ih6 _ _ _ _ _ _ _ _ _ _ _)
      | (with_reducible exact ih7 _ _ _ _ _)
      | (with_reducible exact spec_l06Is.mono _ _ _)
      | (with_reducible exact spec_l06Near.mono _ _ _)
      | (with_reducible exact LeO.refl _)
      | (with_reducible exact LeO.none _)
      | (with_reducible refine LeO.ite ?_ ?_)
      | (with_reducible refine LeO.bind ?_ (fun _ => ?_))
      | exact ih0 _ _ _ _ _ _
      | exact ih1 _ _ _ _ _ _
      | exact ih2 _ _ _ _ _ _ _
      | exact ih3 _ _ _ _ _ _ _ _ _
      | exact ih4 _ _ _ _ _ _ _ _ _ _
      | exact ih5 _ _ _ _ _ _ _ _ _
      | exact ih6 _ _ _ _ _ _ _ _ _ _ _
      | exact ih7 _ _ _ _ _
      | exact spec_l06Is.mono _ _ _
      | exact spec_l06Near.mono _ _ _
      | exact LeO.none _
      | refine LeO.ite ?_ ?_
      | refine LeO.bind ?_ (fun _ => ?_)
    · intro y0 y1 y2 y3 y4 y5 y6 y7 y8 y9
      unfold spec_NeedOf.j4
      repeat' first
      | (with_reducible exact ih0 _ _ _ _ _ _)
      | (with_reducible exact ih1 _ _ _ _ _ _)
      | (with_reducible exact ih2 _ _ _ _ _ _ _)
      | (with_reducible exact ih3 _ _ _ _ _ _ _ _ _)
      | (with_reducible exact ih4 _ _ _ _ _ _ _ _ _ _)
      | (with_reducible exact ih5 _ _ _ _ _ _ _ _ _)
      | (with_reducible exact ih6 _ _ _ _ _ _ _ _ _ _ _)
      | (with_reducible exact ih7 _ _ _ _ _)
      | (with_reducible exact spec_l06Is.mono _ _ _)
      | (with_reducible exact spec_l06Near.mono _ _ _)
      | (with_reducible exact LeO.refl _)
      | (with_reducible exact LeO.none _)
      | (with_reducible refine LeO.ite ?_ ?_)
      | (with_reducible refine LeO.bind ?_ (fun _ => ?_))
      | exact ih0 _ _ _ _ _ _
      | exact ih1 _ _ _ _ _ _
      | exact ih2 _ _ _ _ _ _ _
      | exact ih3 _ _ _ _ _ _ _ _ _
      | exact ih4 _ _ _ _ _ _ _ _ _ _
      | exact ih5 _ _ _ _ _ _ _ _ _
      | exact ih6 _ _ _ _ _ _ _ _ _ _ _
      | exact ih7 _ _ _ _ _
      | exact spec_l06Is.mono _ _ _
      | exact spec_l06Near.mono _ _ _
      | exact LeO.none _
      | refine LeO.ite ?_ ?_
      | refine LeO.bind ?_ (fun _ => ?_)
    · intro y0 y1 y2 y3 y4 y5 y6 y7 y8
      unfold spec_NeedOf.j5
      repeat' first
      | (with_reducible exact ih0 _ _ _ _ _ _)
      | (with_reducible exact ih1 _ _ _ _ _ _)
      | (with_reducible exact ih2 _ _ _ _ _ _ _)
      | (with_reducible exact ih3 _ _ _ _ _ _ _ _ _)
      | (with_reducible exact ih4 _ _ _ _ _ _ _ _ _ _)
      | (with_reducible exact ih5 _ _ _ _ _ _ _ _ _)
      | (with_reducible exact ih6 _ _ _ _ _ _ _ _ _ _ _)
      | (with_reducible exact ih7 _ _ _ _ _)
      | (with_reducible exact spec_l06Is.mono _ _ _)
      | (with_reducible exact spec_l06Near.mono _ _ _)
      | (with_reducible exact LeO.refl _)
      | (with_reducible exact LeO.none _)
      | (with_reducible refine LeO.ite ?_ ?_)
      | (with_reducible refine LeO.bind ?_ (fun _ => ?_))
      | exact ih0 _ _ _ _ _ _
      | exact ih1 _ _ _ _ _ _
      | exact ih2 _ _ _ _ _ _ _
      | exact ih3 _ _ _ _ _ _ _ _ _
      | exact ih4 _ _ _ _ _ _ _ _ _ _
      | exact ih5 _ _ _ _ _ _ _ _ _
      | exact ih6 _ _ _ _ _ _ _ _ _ _ _
      | exact ih7 _ _ _ _ _
      | exact spec_l06Is.mono _ _ _
      | exact spec_l06Near.mono _ _ _
      | exact LeO.none _
      | refine LeO.ite ?_ ?_
      | refine LeO.bind ?_ (fun _ => ?_)
    · intro y0 y1 y2 y3 y4 y5 y6 y7 y8 y9 y10
      unfold spec_NeedOf.l3
      repeat' first
      | (with_reducible exact ih0 _ _ _ _ _ _)
      | (with_reducible exact ih1 _ _ _ _ _ _)
      | (with_reducible exact ih2 _ _ _ _ _ _ _)
      | (with_reducible exact ih3 _ _ _ _ _ _ _ _ _)
      | (with_reducible exact ih4 _ _ _ _ _ _ _ _ _ _)
      | (with_reducible exact ih5 _ _ _ _ _ _ _ _ _)
      | (with_reducible exact ih6 _ _ _ _ _ _ _ _ _ _ _)
      | (with_reducible exact ih7 _ _ _ _ _)
      | (with_reducible exact spec_l06Is.mono _ _ _)
      | (with_reducible exact spec_l06Near.mono _ _ _)
      | (with_reducible exact LeO.refl _)
      | (with_reducible exact LeO.none _)
      | (with_reducible refine LeO.ite ?_ ?_)
      | (with_reducible refine LeO.bind ?_ (fun _ => ?_))
      | exact ih0 _ _ _ _ _ _
      | exact ih1 _ _ _ _ _ _
      | exact ih2 _ _ _ _ _ _ _
      | exact ih3 _ _ _ _ _ _ _ _ _
      | exact ih4 _ _ _ _ _ _ _ _ _ _
      | exact ih5 _ _ _ _ _ _ _ _ _
      | exact ih6 _ _ _ _ _ _ _ _ _ _ _
      | exact ih7 _ _ _ _ _
      | exact spec_l06Is.mono _ _ _
      | exact spec_l06Near.mono _ _ _
      | exact LeO.none _
      | refine LeO.ite ?_ ?_
      | refine LeO.bind ?_ (fun _ => ?_)
    · intro y0 y1 y2 y3 y4
      unfold spec_NeedOf.l4
      repeat' first
      | (with_reducible exact ih0 _ _ _ _ _ _)
      | (with_reducible exact ih1 _ _ _ _ _ _)
      | (with_reducible exact ih2 _ _ _ _ _ _ _)
      | (with_reducible exact ih3 _ _ _ _ _ _ _ _ _)
      | (with_reducible exact ih4 _ _ _ _ _ _ _ _ _ _)
      | (with_reducible exact ih5 _ _ _ _ _ _ _ _ _)
      | (with_reducible exact ih6 _ _ _ _ _ _ _ _ _ _ _)
      | (with_reducible exact ih7 _ _ _ _ _)
      | (with_reducible exact spec_l06Is.mono _ _ _)
      | (with_reducible exact spec_l06Near.mono _ _ _)
      | (with_reducible exact LeO.refl _)
      | (with_reducible exact LeO.none _)
      | (with_reducible refine LeO.ite ?_ ?_)
      | (with_reducible refine LeO.bind ?_ (fun _ => ?_))
      | exact ih0 _ _ _ _ _ _
      | exact ih1 _ _ _ _ _ _
      | exact ih2 _ _ _ _ _ _ _
      | exact ih3 _ _ _ _ _ _ _ _ _
      | exact ih4 _ _ _ _ _ _ _ _ _ _
      | exact ih5 _ _ _ _ _ _ _ _ _
      | exact ih6 _ _ _ _ _ _ _ _ _ _ _
      | exact ih7 _ _ _ _ _
      | exact spec_l06Is.mono _ _ _
      | exact spec_l06Near.mono _ _ _
      | exact LeO.none _
      | refine LeO.ite ?_ ?_
      | refine LeO.bind ?_ (fun _ => ?_)
theorem spec_NeedOf.mono : ∀ a0 a1 a2 k, LeO (spec_NeedOf.f k a0 a1 a2) (spec_NeedOf.f (k + 1) a0 a1 a2) := by
  intro a0 a1 a2 k
  obtain ⟨ih0, ih1, ih2, ih3, ih4, ih5, ih6, ih7⟩ := spec_NeedOf.mono_l k
  unfold spec_NeedOf.f
  repeat' first
      | (with_reducible exact ih0 _ _ _ _ _ _)
      | (with_reducible exact ih1 _ _ _ _ _ _)
      | (with_reducible exact ih2 _ _ _ _ _ _ _)
      | (with_reducible exact ih3 _ _ _ _ _ _ _ _ _)
      | (with_reducible exact ih4 _ _ _ _ _ _ _ _ _ _)
      | (with_reducible exact ih5 _ _ _ _ _ _ _ _ _)
      | (with_reducible exact ih6 _ _ _ _ _ _ _ _ _ _ _)
      | (with_reducible exact ih7 _ _ _ _ _)
      | (with_reducible exact spec_l06Is.mono _ _ _)
      | (with_reducible exact spec_l06Near.mono _ _ _)
      | (with_reducible exact LeO.refl _)
      | (with_reducible exact LeO.none _)
      | (with_reducible refine LeO.ite ?_ ?_)
      | (with_reducible refine LeO.bind ?_ (fun _ => ?_))
      | exact ih0 _ _ _ _ _ _
      | exact ih1 _ _ _ _ _ _
      | exact ih2 _ _ _ _ _ _ _
      | exact ih3 _ _ _ _ _ _ _ _ _
      | exact ih4 _ _ _ _ _ _ _ _ _ _
      | exact ih5 _ _ _ _ _ _ _ _ _
      | exact ih6 _ _ _ _ _ _ _ _ _ _ _
      | exact ih7 _ _ _ _ _
      | exact spec_l06Is.mono _ _ _
      | exact spec_l06Near.mono _ _ _
      | exact LeO.none _
      | refine LeO.ite ?_ ?_
      | refine LeO.bind ?_ (fun _ => ?_)
set_option maxHeartbeats 8000000 in
set_option maxRecDepth 100000 in
theorem spec_NeedOf.calls (k : Nat) (a0_0 : Int) (A0_1 : Option Addr) (c0_1 : Nat) (l0_1 : List Int) (a1 : Int) (r1 : Int) (r2 : Int) (w : World) (hr0_1 : Kd.C (Kd.int .i64) w A0_1 l0_1.length l0_1) (hc0_1 : l0_1.length ≤ c0_1) (h : spec_NeedOf.f k a0_0 l0_1 a1 = some (r1, r2)) :
    Calls Try.prog 31 #[.agg #[.int .i64 a0_0, .slice A0_1 l0_1.length c0_1], .int .i64 a1] w fun e w' => e = .returned (.tuple #[.int .i64 r1, .int .i64 r2]) ∧ Below w.heap.size w w' := by
  have hu32 := Try.underlying32
  have HR0_1 := Aside0.mk hr0_1
  have HC0_1 := Aside0.mk hc0_1
  clear hr0_1 hc0_1
  have HB := Aside0.mk (Below.refl w.heap.size w)
  have H : ((spec_l06Is.f k a0_0 l0_1).bind fun t457 => (if t457 = true then ((spec_l01In.f a1 1 2).bind fun t458 => (if t458 = true then (spec_NeedOf.l0 k a1 a0_0 (([] : List Int)) 0 a0_0 l0_1) else (some (0, 2)))) else (some (0, 1)))) = some (r1, r2) := h
  clear h
  replace H := Option.bind_eq_some_iff.mp H
  obtain ⟨t457, A30, H⟩ := H
  replace H : (if t457 = true then ((spec_l01In.f a1 1 2).bind fun t458 => (if t458 = true then (spec_NeedOf.l0 k a1 a0_0 (([] : List Int)) 0 a0_0 l0_1) else (some (0, 2)))) else (some (0, 1))) = some (r1, r2) := H
  have A3 := Aside0.mk A30
  clear A30
  by_cases c4 : t457 = true
  · subst c4
    have H1 : ((spec_l01In.f a1 1 2).bind fun t458 => (if t458 = true then (spec_NeedOf.l0 k a1 a0_0 (([] : List Int)) 0 a0_0 l0_1) else (some (0, 2)))) = some (r1, r2) := by rw [if_pos rfl] at H; exact H
    clear H
    have H := H1
    clear H1
    replace H := Option.bind_eq_some_iff.mp H
    obtain ⟨t458, A50, H⟩ := H
    replace H : (if t458 = true then (spec_NeedOf.l0 k a1 a0_0 (([] : List Int)) 0 a0_0 l0_1) else (some (0, 2))) = some (r1, r2) := H
    have A5 := Aside0.mk A50
    clear A50
    by_cases c6 : t458 = true
    · subst c6
      have H1 : (spec_NeedOf.l0 k a1 a0_0 (([] : List Int)) 0 a0_0 l0_1) = some (r1, r2) := by rw [if_pos rfl] at H; exact H
      clear H
      have H := H1
      clear H1
      obtain ⟨y459, hy459⟩ : ∃ y_ : List Int, y_ = (([] : List Int)) := ⟨_, rfl⟩
      replace H : (spec_NeedOf.l0 k a1 a0_0 y459 0 a0_0 l0_1) = some (r1, r2) := by first | (rw [hy459]; with_reducible exact H) | (have H2_ := (Option.bind_some _ _).symm.trans H; rw [hy459]; with_reducible exact H2_) | (have H2_ := (Option.bind_some _ _).symm.trans H; with_reducible exact H2_) | with_reducible exact H | (rw [hy459]; exact H) | exact H
      have Ny459 := Aside0.mk hy459
      clear hy459
      have H' := Aside0.mk H
      clear H
      go_enter Try.func31, Try.ntmps31
      go_wp2_with (first | ((with_reducible refine gate_dst (N := 2) rfl ?_); refine box_event ?hg (N := 2) ?hd (cs := #[.int .i64 a0_0, .slice A0_1 l0_1.length c0_1]) (t := 32) ?hr ?_; (case hd => rfl); (case hg => rfl); (case hr => first | (go_simp; done) | (go_simp; rfl)); intro gb456 hg w7 hbox hb; have n0_ := Aside0.mk (below_step (by repeat (first | (with_reducible first | exact HB.out | apply below_alloc | apply pw_below_drewN | apply below_drew1) | exact HB.out)) hb); have n1_ := Aside0.mk (hbox); have n2_ := Aside0.mk ((by rw [hg]; exact (below_size (by repeat (first | (with_reducible first | exact HB.out | apply below_alloc | apply pw_below_drewN | apply below_drew1) | exact HB.out))) : w.heap.size ≤ gb456)); have n3_ := Aside0.mk ((by rw [hg]; exact (below_size (by repeat (first | (with_reducible first | exact HB.out | apply below_alloc | apply pw_below_drewN | apply below_drew1) | exact HB.out))) : w.heap.size ≤ gb456)); clear HB; have HB := n0_; have BK456 := n1_; have GW456 := n2_; have GE456 := n3_; clear n0_ n1_ n2_ n3_; clear hb hbox hg; have hcz8_0 : w7.cell? ⟨gb456, 0, none⟩ = some (.int .i64 a0_0) := (blk_cell BK456.out 0).trans rfl; have hcz8_1 : w7.cell? ⟨gb456, 1, none⟩ = some (.slice A0_1 l0_1.length c0_1) := (blk_cell BK456.out 1).trans rfl; have hfz8_0 := blk_frozen BK456.out 0; have hfz8_1 := blk_frozen BK456.out 1) | ((with_reducible refine gate_callee (f := 38) rfl ?_); refine goesL_ (some 22) rfl rfl Try.func38 (by kernel_rfl) rfl #[.agg #[.int .i64 a0_0, .slice A0_1 l0_1.length c0_1]] rfl (by (try simp only [List.map_toArray, List.map_cons, List.map_nil]); first | done | rfl | (simp only [List.length_drop, List.length_take]; rfl)) ?_; (with_reducible refine (spec_l06Is.calls k a0_0 _ _ l0_1 true _ ?side1 ?side2 A3.out).mono ?_); (case side1 => repeat (first | exact (Kd.C_below HR0_1.out HB.out) | (with_reducible refine Kd.C_alloc ?_ _) | (with_reducible refine Kd.C_drewN ?_ _) | (with_reducible refine Kd.C_drew ?_))); (case side2 => exact HC0_1.out); rintro e w9 ⟨rfl, hb⟩; refine ⟨_, rfl, ?_⟩; have n0_ := Aside0.mk (blk_below (g := gb456) (o := .cells #[.int .i64 a0_0, .slice A0_1 l0_1.length c0_1] 32 (0, 0)) (by (with_reducible repeat (first | refine blk_drewN ?_ _ | refine blk_drew ?_ | refine blk_alloc ?_ _)); exact BK456.out) hb); have n1_ := Aside0.mk (below_step (by repeat (first | (with_reducible first | exact HB.out | apply below_alloc | apply pw_below_drewN | apply below_drew1 | refine below_set ?_ GE456.out) | exact HB.out)) hb); clear BK456; clear HB; have BK456 := n0_; have HB := n1_; clear n0_ n1_; (try clear hb); (try clear hb2); (try clear hk); (try clear hi)) | ((with_reducible refine gate_callee (f := 33) rfl ?_); refine goesL_ (some 26) rfl rfl Try.func33 (by kernel_rfl) rfl #[.int .i64 a1, .int .i64 1, .int .i64 2] rfl (by (try simp only [List.map_toArray, List.map_cons, List.map_nil]); first | done | rfl | (simp only [List.length_drop, List.length_take]; rfl)) ?_; (with_reducible refine (spec_l01In.calls a1 1 2 true _ A5.out).mono ?_); rintro e w' ⟨rfl, ⟨nd, rfl⟩⟩; refine ⟨_, rfl, ?_⟩; have hcz10_0 : w9.cell? ⟨gb456, 0, none⟩ = some (.int .i64 a0_0) := (blk_cell BK456.out 0).trans rfl; have hcz10_1 : w9.cell? ⟨gb456, 1, none⟩ = some (.slice A0_1 l0_1.length c0_1) := (blk_cell BK456.out 1).trans rfl; have hfz10_0 := blk_frozen BK456.out 0; have hfz10_1 := blk_frozen BK456.out 1) | ((with_reducible refine gate_dst (N := 30) rfl ?_); refine Kd.R_lit (Kd.int .i64) _ 2 ?hg (N := 30) ?hd (xs := ([] : List Int)) (inner := []) (ok := fun _ => True) (okp := fun _ => True) ?hr ?hp (fun _ hk => hk) trivial (Below.refl _ _) (Nat.le_refl _) (by simp) ?_; (case hd => rfl); (case hg => rfl); (case hr => first | (go_simp; done) | (go_simp; rfl)); (case hp => exact (Reps.none _ _)); intro v460 w11 ho12 hb hg_ hnew_; clear hg_ hnew_; (first | rw [← Ny459.out] at ho12 | (simp only [Int.reduceToNat] at ho12; rw [← Ny459.out] at ho12)); have n0_ := Aside0.mk (Kd.R_lower ho12 (below_size (by repeat (first | (with_reducible first | exact HB.out | apply below_alloc | apply pw_below_drewN | apply below_drew1 | refine below_set ?_ GE456.out) | exact HB.out)))); have n1_ := Aside0.mk (blk_below (g := gb456) (o := .cells #[.int .i64 a0_0, .slice A0_1 l0_1.length c0_1] 32 (0, 0)) (by (with_reducible repeat (first | refine blk_drewN ?_ _ | refine blk_drew ?_ | refine blk_alloc ?_ _)); exact BK456.out) hb); have n2_ := Aside0.mk (below_step (by repeat (first | (with_reducible first | exact HB.out | apply below_alloc | apply pw_below_drewN | apply below_drew1 | refine below_set ?_ GE456.out) | exact HB.out)) hb); clear BK456; clear HB; have HO461 := n0_; have BK456 := n1_; have HB := n2_; clear n0_ n1_ n2_; clear hb ho12))
      go_loopg [7, 8] k (fun kq v7 v8 w' => ∃ (x7_1 : List Int) (x8_1 : Int), v8 = .int .i64 x8_1 ∧ Aside0 (spec_NeedOf.l0 kq a1 a0_0 x7_1 x8_1 a0_0 l0_1 = some (r1, r2)) ∧ Aside0 (kq ≤ k) ∧ Aside0 (Kd.R (Kd.int .i64) 2 w' w.heap.size (fun _ => True) v7 x7_1) ∧ Aside0 (w'.heap[gb456]? = some (.cells #[.int .i64 a0_0, (.slice A0_1 l0_1.length c0_1)] 32 (0, 0))) ∧ Aside0 (Below w.heap.size w w'))
      case atStart => exact ⟨(y459), (0), (by first | rfl | (simp; done) | (simp [*]; done)), H', ⟨Nat.le_refl _⟩, ⟨by (with_reducible repeat (first | apply Kd.R_alloc | apply Kd.R_drewN | apply Kd.R_drew)); exact HO461.out⟩, ⟨by (with_reducible repeat (first | refine blk_drewN ?_ _ | refine blk_drew ?_ | refine blk_alloc ?_ _)); exact BK456.out⟩, ⟨by repeat (first | (with_reducible first | exact HB.out | apply below_alloc | apply pw_below_drewN | apply below_drew1 | refine below_set ?_ GE456.out) | exact HB.out)⟩⟩
      case round =>
        clear H'
        try clear p2
        try clear c3
        try clear c4
        try clear c6
        try clear hcz10_0
        try clear hcz10_1
        try clear hcz8_0
        try clear hcz8_1
        try clear hfz10_0
        try clear hfz10_1
        try clear hfz8_0
        try clear hfz8_1
        obtain ⟨x7_1, x8_1, rfl, HA, HK1, HO_7, BK456, HB⟩ := hrel
        cases gk with
        | zero => exact absurd HA.out (by simp [spec_NeedOf.l0])
        | succ k1 =>
          have H := HA.out
          clear HA
          simp only [spec_NeedOf.l0] at H
          by_cases c13 : x8_1 < (l0_1.length : Int)
          · rw [if_pos c13] at H
            have c13b0 : decide (x8_1 < (l0_1.length : Int)) = true := decide_eq_true c13
            clear c13
            by_cases c14 : x7_1.length < 17592186044416
            · rw [if_pos c14] at H
              have LMc14 := Aside0.mk c14
              clear c14
              obtain ⟨y462, hy462⟩ : ∃ y_ : List Int, y_ = (x7_1 ++ [(-1)]) := ⟨_, rfl⟩
              replace H : (spec_NeedOf.l0 k1 a1 a0_0 y462 (wrap64 (x8_1 + 1)) a0_0 l0_1) = some (r1, r2) := by first | (rw [hy462]; with_reducible exact H) | (have H2_ := (Option.bind_some _ _).symm.trans H; rw [hy462]; with_reducible exact H2_) | (have H2_ := (Option.bind_some _ _).symm.trans H; with_reducible exact H2_) | with_reducible exact H | (rw [hy462]; exact H) | exact H
              have Ny462 := Aside0.mk hy462
              clear hy462
              have H' := Aside0.mk H
              clear H
              have hcz15_0 : wr.cell? ⟨gb456, 0, none⟩ = some (.int .i64 a0_0) := (blk_cell BK456.out 0).trans rfl
              have hcz15_1 : wr.cell? ⟨gb456, 1, none⟩ = some (.slice A0_1 l0_1.length c0_1) := (blk_cell BK456.out 1).trans rfl
              have hfz15_0 := blk_frozen BK456.out 0
              have hfz15_1 := blk_frozen BK456.out 1
              go_wp2_with (first | ((with_reducible refine gate_builtin (b := .append) (xs := #[.tmp 38, .tmp 39]) rfl ?_); at_builtin; refine Kd.R_append (Kd.int .i64) (w0 := w) w.heap.size rfl (.tmp 38) (.tmp 39) 22 2 (.int .i64 0) 8 rfl Try.underlying22 info2 rfl (by decide) (by omega) u7 x7_1 (-1) [.int .i64 (-1)] (fun _ => True) (fun _ => False) rfl rfl ?aP (fun _ hk => hk.elim) ?aF ?aO ?aB ?aS ?aL ?_; (case aP => exact rfl); (case aB => exact (by repeat (first | (with_reducible first | exact HB.out | apply below_alloc | apply pw_below_drewN | apply below_drew1 | refine below_set ?_ GE456.out) | exact HB.out))); (case aF => exact (fun _ _ => trivial)); (case aO => exact (by (with_reducible repeat (first | apply Kd.R_alloc | apply Kd.R_drewN | apply Kd.R_drew)); exact HO_7.out)); (case aS => exact (below_size (by repeat (first | (with_reducible first | exact HB.out | apply below_alloc | apply pw_below_drewN | apply below_drew1 | refine below_set ?_ GE456.out) | exact HB.out)))); (case aL => have := LMc14.out; omega); intro v463 w16 ho hb hg hat; rw [← Ny462.out] at ho; have n0_ := Aside0.mk (blk_grown (g := gb456) (o := .cells #[.int .i64 a0_0, .slice A0_1 l0_1.length c0_1] 32 (0, 0)) (by (with_reducible repeat (first | refine blk_drewN ?_ _ | refine blk_drew ?_ | refine blk_alloc ?_ _)); exact BK456.out) hg (Kd.R_ne HO_7.out BK456.out (by decide))); have n1_ := Aside0.mk (hb); have n2_ := Aside0.mk (ho); clear BK456; clear HB; clear HO_7; have BK456 := n0_; have HB := n1_; have HO464 := n2_; clear n0_ n1_ n2_; clear ho hb hg hat))
              go_roundg k1
              case measure => have := HK1.out; omega
              case rel => exact ⟨(y462), (wrap64 (x8_1 + 1)), (by first | rfl | (simp; done) | (simp [*]; done)), H', ⟨by have := HK1.out; omega⟩, ⟨by (with_reducible repeat (first | apply Kd.R_alloc | apply Kd.R_drewN | apply Kd.R_drew)); exact HO464.out⟩, ⟨by (with_reducible repeat (first | refine blk_drewN ?_ _ | refine blk_drew ?_ | refine blk_alloc ?_ _)); exact BK456.out⟩, ⟨by repeat (first | (with_reducible first | exact HB.out | apply below_alloc | apply pw_below_drewN | apply below_drew1 | refine below_set ?_ GE456.out) | exact HB.out)⟩⟩
            · rw [if_neg c14] at H
              exact absurd H (by simp)
          · rw [if_neg c13] at H
            have c13b0 : decide (x8_1 < (l0_1.length : Int)) = false := decide_eq_false c13
            clear c13
            have H' := Aside0.mk H
            clear H
            have hcz17_0 : wr.cell? ⟨gb456, 0, none⟩ = some (.int .i64 a0_0) := (blk_cell BK456.out 0).trans rfl
            have hcz17_1 : wr.cell? ⟨gb456, 1, none⟩ = some (.slice A0_1 l0_1.length c0_1) := (blk_cell BK456.out 1).trans rfl
            have hfz17_0 := blk_frozen BK456.out 0
            have hfz17_1 := blk_frozen BK456.out 1
            go_wp2
            go_loopg [9] k1 (fun kq v9 w' => ∃ (x7_2 : List Int) (x9_2 : Bool), v9 = .bool x9_2 ∧ Aside0 (spec_NeedOf.l1 kq a1 a0_0 x7_2 x9_2 a0_0 l0_1 = some (r1, r2)) ∧ Aside0 (kq ≤ k1) ∧ Aside0 (Kd.R (Kd.int .i64) 2 w' w.heap.size (fun _ => True) u7 x7_2) ∧ Aside0 (w'.heap[gb456]? = some (.cells #[.int .i64 a0_0, (.slice A0_1 l0_1.length c0_1)] 32 (0, 0))) ∧ Aside0 (Below w.heap.size w w'))
            case atStart => exact ⟨(x7_1), (true), (by first | rfl | (simp; done) | (simp [*]; done)), H', ⟨Nat.le_refl _⟩, ⟨by (with_reducible repeat (first | apply Kd.R_alloc | apply Kd.R_drewN | apply Kd.R_drew)); exact HO_7.out⟩, ⟨by (with_reducible repeat (first | refine blk_drewN ?_ _ | refine blk_drew ?_ | refine blk_alloc ?_ _)); exact BK456.out⟩, ⟨by repeat (first | (with_reducible first | exact HB.out | apply below_alloc | apply pw_below_drewN | apply below_drew1 | refine below_set ?_ GE456.out) | exact HB.out)⟩⟩
            case round =>
              clear H'
              try clear c1
              try clear p2
              try clear c3
              try clear c4
              try clear c6
              try clear p6
              try clear c13
              try clear c13b0
              try clear c14
              try clear hcz10_0
              try clear hcz10_1
              try clear hcz15_0
              try clear hcz15_1
              try clear hcz17_0
              try clear hcz17_1
              try clear hcz8_0
              try clear hcz8_1
              try clear hfz10_0
              try clear hfz10_1
              try clear hfz15_0
              try clear hfz15_1
              try clear hfz17_0
              try clear hfz17_1
              try clear hfz8_0
              try clear hfz8_1
              try clear p2
              obtain ⟨x7_2, x9_2, rfl, HA, HK2, HO_7, BK456, HB⟩ := hrel
              cases gk with
              | zero => exact absurd HA.out (by simp [spec_NeedOf.l1])
              | succ k2 =>
                have H := HA.out
                clear HA
                simp only [spec_NeedOf.l1] at H
                by_cases c18 : x9_2 = true
                · subst c18
                  have H1 : (spec_NeedOf.l2 k2 a1 a0_0 x7_2 false 0 a0_0 l0_1) = some (r1, r2) := by rw [if_pos rfl] at H; exact H
                  clear H
                  have H := H1
                  clear H1
                  have H' := Aside0.mk H
                  clear H
                  go_wp2
                  go_loopg [9, 10] k2 (fun kq v9 v10 w' => ∃ (x7_3 : List Int) (x9_3 : Bool) (x10_3 : Int), v9 = .bool x9_3 ∧ v10 = .int .i64 x10_3 ∧ Aside0 (spec_NeedOf.l2 kq a1 a0_0 x7_3 x9_3 x10_3 a0_0 l0_1 = some (r1, r2)) ∧ Aside0 (kq ≤ k2) ∧ Aside0 (Kd.R (Kd.int .i64) 2 w' w.heap.size (fun _ => True) u7 x7_3) ∧ Aside0 (w'.heap[gb456]? = some (.cells #[.int .i64 a0_0, (.slice A0_1 l0_1.length c0_1)] 32 (0, 0))) ∧ Aside0 (Below w.heap.size w w'))
                  case atStart => exact ⟨(x7_2), (false), (0), (by first | rfl | (simp; done) | (simp [*]; done)), (by first | rfl | (simp; done) | (simp [*]; done)), H', ⟨Nat.le_refl _⟩, ⟨by (with_reducible repeat (first | apply Kd.R_alloc | apply Kd.R_drewN | apply Kd.R_drew)); exact HO_7.out⟩, ⟨by (with_reducible repeat (first | refine blk_drewN ?_ _ | refine blk_drew ?_ | refine blk_alloc ?_ _)); exact BK456.out⟩, ⟨by repeat (first | (with_reducible first | exact HB.out | apply below_alloc | apply pw_below_drewN | apply below_drew1 | refine below_set ?_ GE456.out) | exact HB.out)⟩⟩
                  case round =>
                    clear H'
                    try clear c1
                    try clear p2
                    try clear c3
                    try clear c4
                    try clear c6
                    try clear p6
                    try clear c13
                    try clear c13b0
                    try clear c14
                    try clear c18
                    try clear hcz10_0
                    try clear hcz10_1
                    try clear hcz15_0
                    try clear hcz15_1
                    try clear hcz17_0
                    try clear hcz17_1
                    try clear hcz8_0
                    try clear hcz8_1
                    try clear hfz10_0
                    try clear hfz10_1
                    try clear hfz15_0
                    try clear hfz15_1
                    try clear hfz17_0
                    try clear hfz17_1
                    try clear hfz8_0
                    try clear hfz8_1
                    try clear p2
                    try clear p6
                    obtain ⟨x7_3, x9_3, x10_3, rfl, rfl, HA, HK3, HO_7, BK456, HB⟩ := hrel
                    cases gk with
                    | zero => exact absurd HA.out (by simp [spec_NeedOf.l2])
                    | succ k3 =>
                      have H := HA.out
                      clear HA
                      simp only [spec_NeedOf.l2] at H
                      by_cases c19 : x10_3 < (wrap64 (a0_0 * a0_0))
                      · rw [if_pos c19] at H
                        have c19b0 : decide (x10_3 < (wrap64 (a0_0 * a0_0))) = true := decide_eq_true c19
                        clear c19
                        by_cases c20 : 0 ≤ x10_3
                        · rw [if_pos c20] at H
                          have c20b0 : decide (0 ≤ x10_3) = true := decide_eq_true c20
                          clear c20
                          by_cases c21 : x10_3 < (l0_1.length : Int)
                          · rw [if_pos c21] at H
                            have c21b0 : decide (x10_3 < (l0_1.length : Int)) = true := decide_eq_true c21
                            clear c21
                            by_cases c22 : (rd l0_1 x10_3) = (wrap64 (3 - a1))
                            · rw [if_pos c22] at H
                              have c22b0 : ((rd l0_1 x10_3) == (wrap64 (3 - a1))) = true := beq_iff_eq.mpr c22
                              have c22b1 : ((rd l0_1 x10_3) != (wrap64 (3 - a1))) = false := bne_eq_false_iff_eq.mpr c22
                              clear c22
                              have H' := Aside0.mk H
                              clear H
                              have hcz23_0 : wr.cell? ⟨gb456, 0, none⟩ = some (.int .i64 a0_0) := (blk_cell BK456.out 0).trans rfl
                              have hcz23_1 : wr.cell? ⟨gb456, 1, none⟩ = some (.slice A0_1 l0_1.length c0_1) := (blk_cell BK456.out 1).trans rfl
                              have hfz23_0 := blk_frozen BK456.out 0
                              have hfz23_1 := blk_frozen BK456.out 1
                              have p465 : 0 ≤ (x10_3 : Int) := of_decide_eq_true (by first | (with_reducible assumption) | assumption)
                              have q465 : x10_3 < (l0_1.length : Int) := of_decide_eq_true (by first | (with_reducible assumption) | assumption)
                              obtain ⟨ad465, e465, hx465_0⟩ := Kd.at_int HR0_1.out x10_3 p465 q465
                              cases e465
                              replace hx465_0 := (HB.out.cell (World.block_lt_of_cell? w _ hx465_0)).trans hx465_0
                              replace p465 := eq_true p465
                              replace q465 := eq_true q465
                              go_wp2
                              go_roundg k3
                              case measure => have := HK1.out; have := HK2.out; have := HK3.out; omega
                              case rel => exact ⟨(x7_3), (x9_3), (wrap64 (x10_3 + 1)), (by first | rfl | (simp; done) | (simp [*]; done)), (by first | rfl | (simp; done) | (simp [*]; done)), H', ⟨by have := HK1.out; have := HK2.out; have := HK3.out; omega⟩, ⟨by (with_reducible repeat (first | apply Kd.R_alloc | apply Kd.R_drewN | apply Kd.R_drew)); exact HO_7.out⟩, ⟨by (with_reducible repeat (first | refine blk_drewN ?_ _ | refine blk_drew ?_ | refine blk_alloc ?_ _)); exact BK456.out⟩, ⟨by repeat (first | (with_reducible first | exact HB.out | apply below_alloc | apply pw_below_drewN | apply below_drew1 | refine below_set ?_ GE456.out) | exact HB.out)⟩⟩
                            · rw [if_neg c22] at H
                              have c22b0 : ((rd l0_1 x10_3) == (wrap64 (3 - a1))) = false := beq_eq_false_iff_ne.mpr c22
                              have c22b1 : ((rd l0_1 x10_3) != (wrap64 (3 - a1))) = true := bne_iff_ne.mpr c22
                              have HC24 := Aside0.mk H
                              clear H
                              have hcz25_0 : wr.cell? ⟨gb456, 0, none⟩ = some (.int .i64 a0_0) := (blk_cell BK456.out 0).trans rfl
                              have hcz25_1 : wr.cell? ⟨gb456, 1, none⟩ = some (.slice A0_1 l0_1.length c0_1) := (blk_cell BK456.out 1).trans rfl
                              have hfz25_0 := blk_frozen BK456.out 0
                              have hfz25_1 := blk_frozen BK456.out 1
                              have p465 : 0 ≤ (x10_3 : Int) := of_decide_eq_true (by first | (with_reducible assumption) | assumption)
                              have q465 : x10_3 < (l0_1.length : Int) := of_decide_eq_true (by first | (with_reducible assumption) | assumption)
                              obtain ⟨ad465, e465, hx465_0⟩ := Kd.at_int HR0_1.out x10_3 p465 q465
                              cases e465
                              replace hx465_0 := (HB.out.cell (World.block_lt_of_cell? w _ hx465_0)).trans hx465_0
                              replace p465 := eq_true p465
                              replace q465 := eq_true q465
                              have p466 : 0 ≤ (x10_3 : Int) := of_decide_eq_true (by first | (with_reducible assumption) | assumption)
                              have q466 : x10_3 < (l0_1.length : Int) := of_decide_eq_true (by first | (with_reducible assumption) | assumption)
                              obtain ⟨ad466, e466, hx466_0⟩ := Kd.at_int HR0_1.out x10_3 p466 q466
                              obtain rfl : ad465 = ad466 := (by injection e466)
                              replace hx466_0 := (HB.out.cell (World.block_lt_of_cell? w _ hx466_0)).trans hx466_0
                              replace p466 := eq_true p466
                              replace q466 := eq_true q466
                              go_upto_if 62 with (fail)
                              go_cut [11] (fun v11 wc => ∃ (kq : Nat) (x11_23 : Int), v11 = .int .i64 x11_23 ∧ Aside0 (spec_NeedOf.j3 kq a1 a0_0 x7_3 x9_3 x10_3 x11_23 (-1) a0_0 l0_1 = some (r1, r2)) ∧ Aside0 (kq ≤ k3) ∧ Aside0 (Kd.R (Kd.int .i64) 2 wc w.heap.size (fun _ => True) u7 x7_3) ∧ Aside0 (wc.heap[gb456]? = some (.cells #[.int .i64 a0_0, (.slice (some ad465) l0_1.length c0_1)] 32 (0, 0))) ∧ Aside0 (Below w.heap.size w wc))
                              case first =>
                                have H := HC24.out
                                clear HC24
                                by_cases c26 : (rd l0_1 x10_3) = 0
                                · rw [if_pos c26] at H
                                  have c26b0 : ((rd l0_1 x10_3) == 0) = true := beq_iff_eq.mpr c26
                                  have c26b1 : ((rd l0_1 x10_3) != 0) = false := bne_eq_false_iff_eq.mpr c26
                                  clear c26
                                  (first | rw [c26b0] | (simp only [i64_w, i32_w]; rw [c26b0]) | skip)
                                  have H' := Aside0.mk H
                                  clear H
                                  go_wp2
                                  go_meet
                                  case rel => exact ⟨_, (1), (by first | rfl | (simp; done) | (simp [*]; done)), H', ⟨by have := HK1.out; have := HK2.out; have := HK3.out; first | omega | exact Nat.le_refl _⟩, ⟨by (with_reducible repeat (first | apply Kd.R_alloc | apply Kd.R_drewN | apply Kd.R_drew)); exact HO_7.out⟩, ⟨by (with_reducible repeat (first | refine blk_drewN ?_ _ | refine blk_drew ?_ | refine blk_alloc ?_ _)); exact BK456.out⟩, ⟨by repeat (first | (with_reducible first | exact HB.out | apply below_alloc | apply pw_below_drewN | apply below_drew1 | refine below_set ?_ GE456.out) | exact HB.out)⟩⟩
                                · rw [if_neg c26] at H
                                  have c26b0 : ((rd l0_1 x10_3) == 0) = false := beq_eq_false_iff_ne.mpr c26
                                  have c26b1 : ((rd l0_1 x10_3) != 0) = true := bne_iff_ne.mpr c26
                                  (first | rw [c26b0] | (simp only [i64_w, i32_w]; rw [c26b0]) | skip)
                                  have H' := Aside0.mk H
                                  clear H
                                  go_wp2
                                  go_meet
                                  case rel => exact ⟨_, (0), (by first | rfl | (simp; done) | (simp [*]; done)), H', ⟨by have := HK1.out; have := HK2.out; have := HK3.out; first | omega | exact Nat.le_refl _⟩, ⟨by (with_reducible repeat (first | apply Kd.R_alloc | apply Kd.R_drewN | apply Kd.R_drew)); exact HO_7.out⟩, ⟨by (with_reducible repeat (first | refine blk_drewN ?_ _ | refine blk_drew ?_ | refine blk_alloc ?_ _)); exact BK456.out⟩, ⟨by repeat (first | (with_reducible first | exact HB.out | apply below_alloc | apply pw_below_drewN | apply below_drew1 | refine below_set ?_ GE456.out) | exact HB.out)⟩⟩
                              case rest =>
                                clear HC24
                                try clear c1
                                try clear c2
                                try clear p2
                                try clear c3
                                try clear c4
                                try clear p4
                                try clear q4
                                try clear hx4
                                try clear c6
                                try clear p6
                                try clear c13
                                try clear c13b0
                                try clear c14
                                try clear c18
                                try clear c19
                                try clear c19b0
                                try clear c20
                                try clear c20b0
                                try clear c21
                                try clear c21b0
                                try clear c22
                                try clear c22b0
                                try clear c22b1
                                try clear c26
                                try clear c26b0
                                try clear c26b1
                                try clear hcz10_0
                                try clear hcz10_1
                                try clear hcz15_0
                                try clear hcz15_1
                                try clear hcz17_0
                                try clear hcz17_1
                                try clear hcz23_0
                                try clear hcz23_1
                                try clear hcz25_0
                                try clear hcz25_1
                                try clear hcz8_0
                                try clear hcz8_1
                                try clear hfz10_0
                                try clear hfz10_1
                                try clear hfz15_0
                                try clear hfz15_1
                                try clear hfz17_0
                                try clear hfz17_1
                                try clear hfz23_0
                                try clear hfz23_1
                                try clear hfz25_0
                                try clear hfz25_1
                                try clear hfz8_0
                                try clear hfz8_1
                                try clear hx465_0
                                try clear hx466_0
                                try clear p2
                                try clear p465
                                try clear p466
                                try clear p6
                                try clear q465
                                try clear q466
                                obtain ⟨kq, x11_23, rfl, HA, HJ23, HO_7, BK456, HB⟩ := hcut
                                cases kq with
                                | zero => exact absurd HA.out (by simp [spec_NeedOf.j3])
                                | succ kj23 =>
                                  have H := HA.out
                                  clear HA
                                  simp only [spec_NeedOf.j3] at H
                                  have HC27 := Aside0.mk H
                                  clear H
                                  go_upto_region 21 with (fail)
                                  go_cut [79] (fun v79 wc => ∃ (kq : Nat) (x79_26 : Bool), v79 = .bool x79_26 ∧ Aside0 (spec_NeedOf.j4 kq a1 a0_0 x7_3 x9_3 x10_3 x11_23 (-1) x79_26 a0_0 l0_1 = some (r1, r2)) ∧ Aside0 (kq ≤ kj23) ∧ Aside0 (Kd.R (Kd.int .i64) 2 wc w.heap.size (fun _ => True) u7 x7_3) ∧ Aside0 (wc.heap[gb456]? = some (.cells #[.int .i64 a0_0, (.slice (some ad465) l0_1.length c0_1)] 32 (0, 0))) ∧ Aside0 (Below w.heap.size w wc))
                                  case first =>
                                    have H := HC27.out
                                    clear HC27
                                    by_cases c28 : a1 = 1
                                    · rw [if_pos c28] at H
                                      have c28b0 : (a1 == 1) = true := beq_iff_eq.mpr c28
                                      have c28b1 : (a1 != 1) = false := bne_eq_false_iff_eq.mpr c28
                                      clear c28
                                      (first | rw [c28b0] | (simp only [i64_w, i32_w]; rw [c28b0]) | skip)
                                      by_cases c29 : x10_3 < a0_0
                                      · rw [if_pos c29] at H
                                        have c29b0 : decide (x10_3 < a0_0) = true := decide_eq_true c29
                                        clear c29
                                        have H' := Aside0.mk H
                                        clear H
                                        go_wp2
                                        go_meet
                                        case rel => exact ⟨_, (true), (by first | rfl | (simp; done) | (simp [*]; done)), H', ⟨by have := HK1.out; have := HK2.out; have := HK3.out; have := HJ23.out; first | omega | exact Nat.le_refl _⟩, ⟨by (with_reducible repeat (first | apply Kd.R_alloc | apply Kd.R_drewN | apply Kd.R_drew)); exact HO_7.out⟩, ⟨by (with_reducible repeat (first | refine blk_drewN ?_ _ | refine blk_drew ?_ | refine blk_alloc ?_ _)); exact BK456.out⟩, ⟨by repeat (first | (with_reducible first | exact HB.out | apply below_alloc | apply pw_below_drewN | apply below_drew1 | refine below_set ?_ GE456.out) | exact HB.out)⟩⟩
                                      · rw [if_neg c29] at H
                                        have c29b0 : decide (x10_3 < a0_0) = false := decide_eq_false c29
                                        clear c29
                                        by_cases c30 : a1 = 2
                                        · rw [if_pos c30] at H
                                          have c30b0 : (a1 == 2) = true := beq_iff_eq.mpr c30
                                          have c30b1 : (a1 != 2) = false := bne_eq_false_iff_eq.mpr c30
                                          clear c30
                                          by_cases c31 : a0_0 = 0
                                          · rw [if_pos c31] at H
                                            exact absurd H (by simp)
                                          · rw [if_neg c31] at H
                                            have c31b0 : (a0_0 == 0) = false := beq_eq_false_iff_ne.mpr c31
                                            have c31b1 : (a0_0 != 0) = true := bne_iff_ne.mpr c31
                                            have H' := Aside0.mk H
                                            clear H
                                            go_wp2
                                            go_meet
                                            case rel => exact ⟨_, (((Int.tmod x10_3 a0_0) == 0)), (by first | rfl | (simp; done) | (simp [*]; done)), H', ⟨by have := HK1.out; have := HK2.out; have := HK3.out; have := HJ23.out; first | omega | exact Nat.le_refl _⟩, ⟨by (with_reducible repeat (first | apply Kd.R_alloc | apply Kd.R_drewN | apply Kd.R_drew)); exact HO_7.out⟩, ⟨by (with_reducible repeat (first | refine blk_drewN ?_ _ | refine blk_drew ?_ | refine blk_alloc ?_ _)); exact BK456.out⟩, ⟨by repeat (first | (with_reducible first | exact HB.out | apply below_alloc | apply pw_below_drewN | apply below_drew1 | refine below_set ?_ GE456.out) | exact HB.out)⟩⟩
                                        · rw [if_neg c30] at H
                                          have c30b0 : (a1 == 2) = false := beq_eq_false_iff_ne.mpr c30
                                          have c30b1 : (a1 != 2) = true := bne_iff_ne.mpr c30
                                          have H' := Aside0.mk H
                                          clear H
                                          go_wp2
                                          go_meet
                                          case rel => exact ⟨_, (false), (by first | rfl | (simp; done) | (simp [*]; done)), H', ⟨by have := HK1.out; have := HK2.out; have := HK3.out; have := HJ23.out; first | omega | exact Nat.le_refl _⟩, ⟨by (with_reducible repeat (first | apply Kd.R_alloc | apply Kd.R_drewN | apply Kd.R_drew)); exact HO_7.out⟩, ⟨by (with_reducible repeat (first | refine blk_drewN ?_ _ | refine blk_drew ?_ | refine blk_alloc ?_ _)); exact BK456.out⟩, ⟨by repeat (first | (with_reducible first | exact HB.out | apply below_alloc | apply pw_below_drewN | apply below_drew1 | refine below_set ?_ GE456.out) | exact HB.out)⟩⟩
                                    · rw [if_neg c28] at H
                                      have c28b0 : (a1 == 1) = false := beq_eq_false_iff_ne.mpr c28
                                      have c28b1 : (a1 != 1) = true := bne_iff_ne.mpr c28
                                      (first | rw [c28b0] | (simp only [i64_w, i32_w]; rw [c28b0]) | skip)
                                      by_cases c32 : a1 = 2
                                      · rw [if_pos c32] at H
                                        have c32b0 : (a1 == 2) = true := beq_iff_eq.mpr c32
                                        have c32b1 : (a1 != 2) = false := bne_eq_false_iff_eq.mpr c32
                                        clear c32
                                        by_cases c33 : a0_0 = 0
                                        · rw [if_pos c33] at H
                                          exact absurd H (by simp)
                                        · rw [if_neg c33] at H
                                          have c33b0 : (a0_0 == 0) = false := beq_eq_false_iff_ne.mpr c33
                                          have c33b1 : (a0_0 != 0) = true := bne_iff_ne.mpr c33
                                          have H' := Aside0.mk H
                                          clear H
                                          go_wp2
                                          go_meet
                                          case rel => exact ⟨_, (((Int.tmod x10_3 a0_0) == 0)), (by first | rfl | (simp; done) | (simp [*]; done)), H', ⟨by have := HK1.out; have := HK2.out; have := HK3.out; have := HJ23.out; first | omega | exact Nat.le_refl _⟩, ⟨by (with_reducible repeat (first | apply Kd.R_alloc | apply Kd.R_drewN | apply Kd.R_drew)); exact HO_7.out⟩, ⟨by (with_reducible repeat (first | refine blk_drewN ?_ _ | refine blk_drew ?_ | refine blk_alloc ?_ _)); exact BK456.out⟩, ⟨by repeat (first | (with_reducible first | exact HB.out | apply below_alloc | apply pw_below_drewN | apply below_drew1 | refine below_set ?_ GE456.out) | exact HB.out)⟩⟩
                                      · rw [if_neg c32] at H
                                        have c32b0 : (a1 == 2) = false := beq_eq_false_iff_ne.mpr c32
                                        have c32b1 : (a1 != 2) = true := bne_iff_ne.mpr c32
                                        have H' := Aside0.mk H
                                        clear H
                                        go_wp2
                                        go_meet
                                        case rel => exact ⟨_, (false), (by first | rfl | (simp; done) | (simp [*]; done)), H', ⟨by have := HK1.out; have := HK2.out; have := HK3.out; have := HJ23.out; first | omega | exact Nat.le_refl _⟩, ⟨by (with_reducible repeat (first | apply Kd.R_alloc | apply Kd.R_drewN | apply Kd.R_drew)); exact HO_7.out⟩, ⟨by (with_reducible repeat (first | refine blk_drewN ?_ _ | refine blk_drew ?_ | refine blk_alloc ?_ _)); exact BK456.out⟩, ⟨by repeat (first | (with_reducible first | exact HB.out | apply below_alloc | apply pw_below_drewN | apply below_drew1 | refine below_set ?_ GE456.out) | exact HB.out)⟩⟩
                                  case rest =>
                                    clear HC27
                                    try clear c1
                                    try clear c2
                                    try clear p2
                                    try clear c3
                                    try clear c4
                                    try clear p4
                                    try clear q4
                                    try clear hx4
                                    try clear c6
                                    try clear p6
                                    try clear c13
                                    try clear c13b0
                                    try clear c14
                                    try clear c18
                                    try clear c19
                                    try clear c19b0
                                    try clear c20
                                    try clear c20b0
                                    try clear c21
                                    try clear c21b0
                                    try clear c22
                                    try clear c22b0
                                    try clear c22b1
                                    try clear c26
                                    try clear c26b0
                                    try clear c26b1
                                    try clear c28
                                    try clear c28b0
                                    try clear c28b1
                                    try clear c29
                                    try clear c29b0
                                    try clear c30
                                    try clear c30b0
                                    try clear c30b1
                                    try clear c31
                                    try clear c31b0
                                    try clear c31b1
                                    try clear c32
                                    try clear c32b0
                                    try clear c32b1
                                    try clear c33
                                    try clear c33b0
                                    try clear c33b1
                                    try clear hcz10_0
                                    try clear hcz10_1
                                    try clear hcz15_0
                                    try clear hcz15_1
                                    try clear hcz17_0
                                    try clear hcz17_1
                                    try clear hcz23_0
                                    try clear hcz23_1
                                    try clear hcz25_0
                                    try clear hcz25_1
                                    try clear hcz8_0
                                    try clear hcz8_1
                                    try clear hfz10_0
                                    try clear hfz10_1
                                    try clear hfz15_0
                                    try clear hfz15_1
                                    try clear hfz17_0
                                    try clear hfz17_1
                                    try clear hfz23_0
                                    try clear hfz23_1
                                    try clear hfz25_0
                                    try clear hfz25_1
                                    try clear hfz8_0
                                    try clear hfz8_1
                                    try clear hx465_0
                                    try clear hx466_0
                                    try clear p2
                                    try clear p4
                                    try clear p465
                                    try clear p466
                                    try clear p6
                                    try clear q4
                                    try clear q465
                                    try clear q466
                                    obtain ⟨kq, x79_26, rfl, HA, HJ26, HO_7, BK456, HB⟩ := hcut
                                    cases kq with
                                    | zero => exact absurd HA.out (by simp [spec_NeedOf.j4])
                                    | succ kj26 =>
                                      have H := HA.out
                                      clear HA
                                      simp only [spec_NeedOf.j4] at H
                                      have HC34 := Aside0.mk H
                                      clear H
                                      go_upto_if 79 with (fail)
                                      go_cut [12] (fun v12 wc => ∃ (kq : Nat) (x12_33 : Int), v12 = .int .i64 x12_33 ∧ Aside0 (spec_NeedOf.j5 kq a1 a0_0 x7_3 x9_3 x10_3 x11_23 x12_33 a0_0 l0_1 = some (r1, r2)) ∧ Aside0 (kq ≤ kj26) ∧ Aside0 (Kd.R (Kd.int .i64) 2 wc w.heap.size (fun _ => True) u7 x7_3) ∧ Aside0 (wc.heap[gb456]? = some (.cells #[.int .i64 a0_0, (.slice (some ad465) l0_1.length c0_1)] 32 (0, 0))) ∧ Aside0 (Below w.heap.size w wc))
                                      case first =>
                                        have H := HC34.out
                                        clear HC34
                                        by_cases c35 : x79_26 = true
                                        · subst c35
                                          have H1 : (spec_NeedOf.j5 kj26 a1 a0_0 x7_3 x9_3 x10_3 x11_23 x11_23 a0_0 l0_1) = some (r1, r2) := by rw [if_pos rfl] at H; exact H
                                          clear H
                                          have H := H1
                                          clear H1
                                          have H' := Aside0.mk H
                                          clear H
                                          go_wp2
                                          go_meet
                                          case rel => exact ⟨_, (x11_23), (by first | rfl | (simp; done) | (simp [*]; done)), H', ⟨by have := HK1.out; have := HK2.out; have := HK3.out; have := HJ23.out; have := HJ26.out; first | omega | exact Nat.le_refl _⟩, ⟨by (with_reducible repeat (first | apply Kd.R_alloc | apply Kd.R_drewN | apply Kd.R_drew)); exact HO_7.out⟩, ⟨by (with_reducible repeat (first | refine blk_drewN ?_ _ | refine blk_drew ?_ | refine blk_alloc ?_ _)); exact BK456.out⟩, ⟨by repeat (first | (with_reducible first | exact HB.out | apply below_alloc | apply pw_below_drewN | apply below_drew1 | refine below_set ?_ GE456.out) | exact HB.out)⟩⟩
                                        · replace c35 := Bool.eq_false_iff.mpr c35
                                          subst c35
                                          have H1 : (spec_NeedOf.j5 kj26 a1 a0_0 x7_3 x9_3 x10_3 x11_23 (-1) a0_0 l0_1) = some (r1, r2) := by rw [if_neg (show ¬ (false = true) by decide)] at H; exact H
                                          clear H
                                          have H := H1
                                          clear H1
                                          have H' := Aside0.mk H
                                          clear H
                                          go_wp2
                                          go_meet
                                          case rel => exact ⟨_, ((-1)), (by first | rfl | (simp; done) | (simp [*]; done)), H', ⟨by have := HK1.out; have := HK2.out; have := HK3.out; have := HJ23.out; have := HJ26.out; first | omega | exact Nat.le_refl _⟩, ⟨by (with_reducible repeat (first | apply Kd.R_alloc | apply Kd.R_drewN | apply Kd.R_drew)); exact HO_7.out⟩, ⟨by (with_reducible repeat (first | refine blk_drewN ?_ _ | refine blk_drew ?_ | refine blk_alloc ?_ _)); exact BK456.out⟩, ⟨by repeat (first | (with_reducible first | exact HB.out | apply below_alloc | apply pw_below_drewN | apply below_drew1 | refine below_set ?_ GE456.out) | exact HB.out)⟩⟩
                                      case rest =>
                                        clear HC34
                                        try clear c1
                                        try clear c2
                                        try clear p2
                                        try clear c3
                                        try clear c4
                                        try clear p4
                                        try clear q4
                                        try clear hx4
                                        try clear c6
                                        try clear p6
                                        try clear c13
                                        try clear c13b0
                                        try clear c14
                                        try clear c18
                                        try clear c19
                                        try clear c19b0
                                        try clear c20
                                        try clear c20b0
                                        try clear c21
                                        try clear c21b0
                                        try clear c22
                                        try clear c22b0
                                        try clear c22b1
                                        try clear c26
                                        try clear c26b0
                                        try clear c26b1
                                        try clear c28
                                        try clear c28b0
                                        try clear c28b1
                                        try clear c29
                                        try clear c29b0
                                        try clear c30
                                        try clear c30b0
                                        try clear c30b1
                                        try clear c31
                                        try clear c31b0
                                        try clear c31b1
                                        try clear c32
                                        try clear c32b0
                                        try clear c32b1
                                        try clear c33
                                        try clear c33b0
                                        try clear c33b1
                                        try clear c35
                                        try clear hcz10_0
                                        try clear hcz10_1
                                        try clear hcz15_0
                                        try clear hcz15_1
                                        try clear hcz17_0
                                        try clear hcz17_1
                                        try clear hcz23_0
                                        try clear hcz23_1
                                        try clear hcz25_0
                                        try clear hcz25_1
                                        try clear hcz8_0
                                        try clear hcz8_1
                                        try clear hfz10_0
                                        try clear hfz10_1
                                        try clear hfz15_0
                                        try clear hfz15_1
                                        try clear hfz17_0
                                        try clear hfz17_1
                                        try clear hfz23_0
                                        try clear hfz23_1
                                        try clear hfz25_0
                                        try clear hfz25_1
                                        try clear hfz8_0
                                        try clear hfz8_1
                                        try clear hx465_0
                                        try clear hx466_0
                                        try clear p2
                                        try clear p4
                                        try clear p465
                                        try clear p466
                                        try clear p6
                                        try clear q4
                                        try clear q465
                                        try clear q466
                                        obtain ⟨kq, x12_33, rfl, HA, HJ33, HO_7, BK456, HB⟩ := hcut
                                        cases kq with
                                        | zero => exact absurd HA.out (by simp [spec_NeedOf.j5])
                                        | succ kj33 =>
                                          have H := HA.out
                                          clear HA
                                          simp only [spec_NeedOf.j5] at H
                                          replace H := Option.bind_eq_some_iff.mp H
                                          obtain ⟨t467, A360, H⟩ := H
                                          replace H : (spec_NeedOf.l3 kj33 a1 a0_0 x7_3 x9_3 x10_3 x11_23 x12_33 t467 0 a0_0 l0_1) = some (r1, r2) := H
                                          have A36 := Aside0.mk A360
                                          clear A360
                                          have H' := Aside0.mk H
                                          clear H
                                          go_wp2_with (first | ((with_reducible refine gate_callee (f := 34) rfl ?_); refine goesL_ (some 83) rfl rfl Try.func34 (by kernel_rfl) rfl #[.int .i64 a0_0, .int .i64 x10_3] rfl (by (try simp only [List.map_toArray, List.map_cons, List.map_nil]); first | done | rfl | (simp only [List.length_drop, List.length_take]; rfl)) ?_; (with_reducible refine (spec_l06Near.calls kj33 a0_0 x10_3 t467 _ A36.out).mono ?_); rintro e w37 ⟨v468, rfl, ho0, hb⟩; refine ⟨_, rfl, ?_⟩; have n0_ := Aside0.mk (Kd.R_elder' (by (with_reducible repeat (first | apply Kd.R_alloc | apply Kd.R_drewN | apply Kd.R_drew)); exact HO_7.out) (Kd.R_base ho0) hb); have n1_ := Aside0.mk (Kd.R_lower (Kd.R_new' ho0 (Kd.R_lt (by (with_reducible repeat (first | apply Kd.R_alloc | apply Kd.R_drewN | apply Kd.R_drew)); exact HO_7.out))) (below_size (by repeat (first | (with_reducible first | exact HB.out | apply below_alloc | apply pw_below_drewN | apply below_drew1 | refine below_set ?_ GE456.out) | exact HB.out)))); have n2_ := Aside0.mk (blk_below (g := gb456) (o := .cells #[.int .i64 a0_0, .slice (some ad465) l0_1.length c0_1] 32 (0, 0)) (by (with_reducible repeat (first | refine blk_drewN ?_ _ | refine blk_drew ?_ | refine blk_alloc ?_ _)); exact BK456.out) hb); have n3_ := Aside0.mk (below_step (by repeat (first | (with_reducible first | exact HB.out | apply below_alloc | apply pw_below_drewN | apply below_drew1 | refine below_set ?_ GE456.out) | exact HB.out)) hb); clear HO_7; clear BK456; clear HB; have HO_7 := n0_; have HO469 := n1_; have BK456 := n2_; have HB := n3_; clear n0_ n1_ n2_ n3_; (try clear hb); (try clear hb2); (try clear hk); (try clear hi); (try clear ho0)))
                                          go_loopg [12, 14] kj33 (fun kq v12 v14 w' => ∃ (x12_7 : Int) (x14_7 : Int), v12 = .int .i64 x12_7 ∧ v14 = .int .i64 x14_7 ∧ Aside0 (spec_NeedOf.l3 kq a1 a0_0 x7_3 x9_3 x10_3 x11_23 x12_7 t467 x14_7 a0_0 l0_1 = some (r1, r2)) ∧ Aside0 (kq ≤ kj33) ∧ Aside0 (Kd.R (Kd.int .i64) 2 w' w.heap.size (fun k_ => some k_ ≠ (v468 : Value).ownBlock) u7 x7_3) ∧ Aside0 (Kd.R (Kd.int .i64) 2 w' w.heap.size (fun k_ => some k_ ≠ (u7 : Value).ownBlock) v468 t467) ∧ Aside0 (w'.heap[gb456]? = some (.cells #[.int .i64 a0_0, (.slice (some ad465) l0_1.length c0_1)] 32 (0, 0))) ∧ Aside0 (Below w.heap.size w w'))
                                          case atStart => exact ⟨(x12_33), (0), (by first | rfl | (simp; done) | (simp [*]; done)), (by first | rfl | (simp; done) | (simp [*]; done)), H', ⟨Nat.le_refl _⟩, ⟨by (with_reducible repeat (first | apply Kd.R_alloc | apply Kd.R_drewN | apply Kd.R_drew)); exact Kd.R_mono HO_7.out (fun _ hk => hk.2)⟩, ⟨by (with_reducible repeat (first | apply Kd.R_alloc | apply Kd.R_drewN | apply Kd.R_drew)); exact Kd.R_mono HO469.out (fun _ hk => hk.2)⟩, ⟨by (with_reducible repeat (first | refine blk_drewN ?_ _ | refine blk_drew ?_ | refine blk_alloc ?_ _)); exact BK456.out⟩, ⟨by repeat (first | (with_reducible first | exact HB.out | apply below_alloc | apply pw_below_drewN | apply below_drew1 | refine below_set ?_ GE456.out) | exact HB.out)⟩⟩
                                          case round =>
                                            clear H'
                                            try clear c1
                                            try clear c2
                                            try clear p2
                                            try clear c3
                                            try clear c4
                                            try clear p4
                                            try clear q4
                                            try clear hx4
                                            try clear c6
                                            try clear p6
                                            try clear c13
                                            try clear c13b0
                                            try clear c14
                                            try clear c18
                                            try clear c19
                                            try clear c19b0
                                            try clear c20
                                            try clear c20b0
                                            try clear c21
                                            try clear c21b0
                                            try clear c22
                                            try clear c22b0
                                            try clear c22b1
                                            try clear c26
                                            try clear c26b0
                                            try clear c26b1
                                            try clear c28
                                            try clear c28b0
                                            try clear c28b1
                                            try clear c29
                                            try clear c29b0
                                            try clear c30
                                            try clear c30b0
                                            try clear c30b1
                                            try clear c31
                                            try clear c31b0
                                            try clear c31b1
                                            try clear c32
                                            try clear c32b0
                                            try clear c32b1
                                            try clear c33
                                            try clear c33b0
                                            try clear c33b1
                                            try clear c34
                                            try clear c35
                                            try clear hcz10_0
                                            try clear hcz10_1
                                            try clear hcz15_0
                                            try clear hcz15_1
                                            try clear hcz17_0
                                            try clear hcz17_1
                                            try clear hcz23_0
                                            try clear hcz23_1
                                            try clear hcz25_0
                                            try clear hcz25_1
                                            try clear hcz8_0
                                            try clear hcz8_1
                                            try clear hfz10_0
                                            try clear hfz10_1
                                            try clear hfz15_0
                                            try clear hfz15_1
                                            try clear hfz17_0
                                            try clear hfz17_1
                                            try clear hfz23_0
                                            try clear hfz23_1
                                            try clear hfz25_0
                                            try clear hfz25_1
                                            try clear hfz8_0
                                            try clear hfz8_1
                                            try clear hx465_0
                                            try clear hx466_0
                                            try clear p2
                                            try clear p4
                                            try clear p465
                                            try clear p466
                                            try clear p6
                                            try clear q4
                                            try clear q465
                                            try clear q466
                                            obtain ⟨x12_7, x14_7, rfl, rfl, HA, HK7, HO_7, HO_13, BK456, HB⟩ := hrel
                                            cases gk with
                                            | zero => exact absurd HA.out (by simp [spec_NeedOf.l3])
                                            | succ k7 =>
                                              have H := HA.out
                                              clear HA
                                              simp only [spec_NeedOf.l3] at H
                                              by_cases c38 : x14_7 < (t467.length : Int)
                                              · rw [if_pos c38] at H
                                                have c38b0 : decide (x14_7 < (t467.length : Int)) = true := decide_eq_true c38
                                                clear c38
                                                by_cases c39 : 0 ≤ x14_7
                                                · rw [if_pos c39] at H
                                                  have c39b0 : decide (0 ≤ x14_7) = true := decide_eq_true c39
                                                  clear c39
                                                  by_cases c40 : 0 ≤ (rd t467 x14_7)
                                                  · rw [if_pos c40] at H
                                                    have c40b0 : decide (0 ≤ (rd t467 x14_7)) = true := decide_eq_true c40
                                                    clear c40
                                                    by_cases c41 : (rd t467 x14_7) < (x7_3.length : Int)
                                                    · rw [if_pos c41] at H
                                                      have c41b0 : decide ((rd t467 x14_7) < (x7_3.length : Int)) = true := decide_eq_true c41
                                                      clear c41
                                                      by_cases c42 : (rd x7_3 (rd t467 x14_7)) ≥ 0
                                                      · rw [if_pos c42] at H
                                                        have c42b0 : decide (0 ≤ (rd x7_3 (rd t467 x14_7))) = true := decide_eq_true c42
                                                        clear c42
                                                        by_cases c43 : x12_7 < 0
                                                        · rw [if_pos c43] at H
                                                          have c43b0 : decide (x12_7 < 0) = true := decide_eq_true c43
                                                          clear c43
                                                          have H' := Aside0.mk H
                                                          clear H
                                                          obtain ⟨Ao44, co44, eo44⟩ := Kd.R_slice HO_13.out
                                                          subst eo44
                                                          have p470 : 0 ≤ (x14_7 : Int) := of_decide_eq_true (by first | (with_reducible assumption) | assumption)
                                                          have q470 : x14_7 < (t467.length : Int) := of_decide_eq_true (by first | (with_reducible assumption) | assumption)
                                                          obtain ⟨ad470, e470, hx470_0⟩ := Kd.at_int (Kd.R_reads' HO_13.out).2.2 x14_7 p470 q470
                                                          cases e470
                                                          replace p470 := eq_true p470
                                                          replace q470 := eq_true q470
                                                          obtain ⟨Ao45, co45, eo45⟩ := Kd.R_slice HO_7.out
                                                          subst eo45
                                                          have p471 : 0 ≤ ((rd t467 x14_7) : Int) := of_decide_eq_true (by first | (with_reducible assumption) | assumption)
                                                          have q471 : (rd t467 x14_7) < (x7_3.length : Int) := of_decide_eq_true (by first | (with_reducible assumption) | assumption)
                                                          obtain ⟨ad471, e471, hx471_0⟩ := Kd.at_int (Kd.R_reads' HO_7.out).2.2 (rd t467 x14_7) p471 q471
                                                          cases e471
                                                          replace p471 := eq_true p471
                                                          replace q471 := eq_true q471
                                                          go_wp2
                                                          go_roundg k7
                                                          case measure => have := HK1.out; have := HK2.out; have := HK3.out; have := HJ23.out; have := HJ26.out; have := HJ33.out; have := HK7.out; omega
                                                          case rel => exact ⟨(wrap64 ((rd x7_3 (rd t467 x14_7)) + x11_23)), (wrap64 (x14_7 + 1)), (by first | rfl | (simp; done) | (simp [*]; done)), (by first | rfl | (simp; done) | (simp [*]; done)), H', ⟨by have := HK1.out; have := HK2.out; have := HK3.out; have := HJ23.out; have := HJ26.out; have := HJ33.out; have := HK7.out; omega⟩, ⟨by (with_reducible repeat (first | apply Kd.R_alloc | apply Kd.R_drewN | apply Kd.R_drew)); exact HO_7.out⟩, ⟨by (with_reducible repeat (first | apply Kd.R_alloc | apply Kd.R_drewN | apply Kd.R_drew)); exact HO_13.out⟩, ⟨by (with_reducible repeat (first | refine blk_drewN ?_ _ | refine blk_drew ?_ | refine blk_alloc ?_ _)); exact BK456.out⟩, ⟨by repeat (first | (with_reducible first | exact HB.out | apply below_alloc | apply pw_below_drewN | apply below_drew1 | refine below_set ?_ GE456.out) | exact HB.out)⟩⟩
                                                        · rw [if_neg c43] at H
                                                          have c43b0 : decide (x12_7 < 0) = false := decide_eq_false c43
                                                          clear c43
                                                          by_cases c46 : (wrap64 ((rd x7_3 (rd t467 x14_7)) + x11_23)) < x12_7
                                                          · rw [if_pos c46] at H
                                                            have c46b0 : decide ((wrap64 ((rd x7_3 (rd t467 x14_7)) + x11_23)) < x12_7) = true := decide_eq_true c46
                                                            clear c46
                                                            have H' := Aside0.mk H
                                                            clear H
                                                            obtain ⟨Ao47, co47, eo47⟩ := Kd.R_slice HO_13.out
                                                            subst eo47
                                                            have p470 : 0 ≤ (x14_7 : Int) := of_decide_eq_true (by first | (with_reducible assumption) | assumption)
                                                            have q470 : x14_7 < (t467.length : Int) := of_decide_eq_true (by first | (with_reducible assumption) | assumption)
                                                            obtain ⟨ad470, e470, hx470_0⟩ := Kd.at_int (Kd.R_reads' HO_13.out).2.2 x14_7 p470 q470
                                                            cases e470
                                                            replace p470 := eq_true p470
                                                            replace q470 := eq_true q470
                                                            obtain ⟨Ao48, co48, eo48⟩ := Kd.R_slice HO_7.out
                                                            subst eo48
                                                            have p471 : 0 ≤ ((rd t467 x14_7) : Int) := of_decide_eq_true (by first | (with_reducible assumption) | assumption)
                                                            have q471 : (rd t467 x14_7) < (x7_3.length : Int) := of_decide_eq_true (by first | (with_reducible assumption) | assumption)
                                                            obtain ⟨ad471, e471, hx471_0⟩ := Kd.at_int (Kd.R_reads' HO_7.out).2.2 (rd t467 x14_7) p471 q471
                                                            cases e471
                                                            replace p471 := eq_true p471
                                                            replace q471 := eq_true q471
                                                            go_wp2
                                                            go_roundg k7
                                                            case measure => have := HK1.out; have := HK2.out; have := HK3.out; have := HJ23.out; have := HJ26.out; have := HJ33.out; have := HK7.out; omega
                                                            case rel => exact ⟨(wrap64 ((rd x7_3 (rd t467 x14_7)) + x11_23)), (wrap64 (x14_7 + 1)), (by first | rfl | (simp; done) | (simp [*]; done)), (by first | rfl | (simp; done) | (simp [*]; done)), H', ⟨by have := HK1.out; have := HK2.out; have := HK3.out; have := HJ23.out; have := HJ26.out; have := HJ33.out; have := HK7.out; omega⟩, ⟨by (with_reducible repeat (first | apply Kd.R_alloc | apply Kd.R_drewN | apply Kd.R_drew)); exact HO_7.out⟩, ⟨by (with_reducible repeat (first | apply Kd.R_alloc | apply Kd.R_drewN | apply Kd.R_drew)); exact HO_13.out⟩, ⟨by (with_reducible repeat (first | refine blk_drewN ?_ _ | refine blk_drew ?_ | refine blk_alloc ?_ _)); exact BK456.out⟩, ⟨by repeat (first | (with_reducible first | exact HB.out | apply below_alloc | apply pw_below_drewN | apply below_drew1 | refine below_set ?_ GE456.out) | exact HB.out)⟩⟩
                                                          · rw [if_neg c46] at H
                                                            have c46b0 : decide ((wrap64 ((rd x7_3 (rd t467 x14_7)) + x11_23)) < x12_7) = false := decide_eq_false c46
                                                            clear c46
                                                            have H' := Aside0.mk H
                                                            clear H
                                                            obtain ⟨Ao49, co49, eo49⟩ := Kd.R_slice HO_13.out
                                                            subst eo49
                                                            have p470 : 0 ≤ (x14_7 : Int) := of_decide_eq_true (by first | (with_reducible assumption) | assumption)
                                                            have q470 : x14_7 < (t467.length : Int) := of_decide_eq_true (by first | (with_reducible assumption) | assumption)
                                                            obtain ⟨ad470, e470, hx470_0⟩ := Kd.at_int (Kd.R_reads' HO_13.out).2.2 x14_7 p470 q470
                                                            cases e470
                                                            replace p470 := eq_true p470
                                                            replace q470 := eq_true q470
                                                            obtain ⟨Ao50, co50, eo50⟩ := Kd.R_slice HO_7.out
                                                            subst eo50
                                                            have p471 : 0 ≤ ((rd t467 x14_7) : Int) := of_decide_eq_true (by first | (with_reducible assumption) | assumption)
                                                            have q471 : (rd t467 x14_7) < (x7_3.length : Int) := of_decide_eq_true (by first | (with_reducible assumption) | assumption)
                                                            obtain ⟨ad471, e471, hx471_0⟩ := Kd.at_int (Kd.R_reads' HO_7.out).2.2 (rd t467 x14_7) p471 q471
                                                            cases e471
                                                            replace p471 := eq_true p471
                                                            replace q471 := eq_true q471
                                                            go_wp2
                                                            go_roundg k7
                                                            case measure => have := HK1.out; have := HK2.out; have := HK3.out; have := HJ23.out; have := HJ26.out; have := HJ33.out; have := HK7.out; omega
                                                            case rel => exact ⟨(x12_7), (wrap64 (x14_7 + 1)), (by first | rfl | (simp; done) | (simp [*]; done)), (by first | rfl | (simp; done) | (simp [*]; done)), H', ⟨by have := HK1.out; have := HK2.out; have := HK3.out; have := HJ23.out; have := HJ26.out; have := HJ33.out; have := HK7.out; omega⟩, ⟨by (with_reducible repeat (first | apply Kd.R_alloc | apply Kd.R_drewN | apply Kd.R_drew)); exact HO_7.out⟩, ⟨by (with_reducible repeat (first | apply Kd.R_alloc | apply Kd.R_drewN | apply Kd.R_drew)); exact HO_13.out⟩, ⟨by (with_reducible repeat (first | refine blk_drewN ?_ _ | refine blk_drew ?_ | refine blk_alloc ?_ _)); exact BK456.out⟩, ⟨by repeat (first | (with_reducible first | exact HB.out | apply below_alloc | apply pw_below_drewN | apply below_drew1 | refine below_set ?_ GE456.out) | exact HB.out)⟩⟩
                                                      · rw [if_neg c42] at H
                                                        have c42b0 : decide (0 ≤ (rd x7_3 (rd t467 x14_7))) = false := decide_eq_false c42
                                                        clear c42
                                                        have H' := Aside0.mk H
                                                        clear H
                                                        obtain ⟨Ao51, co51, eo51⟩ := Kd.R_slice HO_13.out
                                                        subst eo51
                                                        have p470 : 0 ≤ (x14_7 : Int) := of_decide_eq_true (by first | (with_reducible assumption) | assumption)
                                                        have q470 : x14_7 < (t467.length : Int) := of_decide_eq_true (by first | (with_reducible assumption) | assumption)
                                                        obtain ⟨ad470, e470, hx470_0⟩ := Kd.at_int (Kd.R_reads' HO_13.out).2.2 x14_7 p470 q470
                                                        cases e470
                                                        replace p470 := eq_true p470
                                                        replace q470 := eq_true q470
                                                        obtain ⟨Ao52, co52, eo52⟩ := Kd.R_slice HO_7.out
                                                        subst eo52
                                                        have p471 : 0 ≤ ((rd t467 x14_7) : Int) := of_decide_eq_true (by first | (with_reducible assumption) | assumption)
                                                        have q471 : (rd t467 x14_7) < (x7_3.length : Int) := of_decide_eq_true (by first | (with_reducible assumption) | assumption)
                                                        obtain ⟨ad471, e471, hx471_0⟩ := Kd.at_int (Kd.R_reads' HO_7.out).2.2 (rd t467 x14_7) p471 q471
                                                        cases e471
                                                        replace p471 := eq_true p471
                                                        replace q471 := eq_true q471
                                                        go_wp2
                                                        go_roundg k7
                                                        case measure => have := HK1.out; have := HK2.out; have := HK3.out; have := HJ23.out; have := HJ26.out; have := HJ33.out; have := HK7.out; omega
                                                        case rel => exact ⟨(x12_7), (wrap64 (x14_7 + 1)), (by first | rfl | (simp; done) | (simp [*]; done)), (by first | rfl | (simp; done) | (simp [*]; done)), H', ⟨by have := HK1.out; have := HK2.out; have := HK3.out; have := HJ23.out; have := HJ26.out; have := HJ33.out; have := HK7.out; omega⟩, ⟨by (with_reducible repeat (first | apply Kd.R_alloc | apply Kd.R_drewN | apply Kd.R_drew)); exact HO_7.out⟩, ⟨by (with_reducible repeat (first | apply Kd.R_alloc | apply Kd.R_drewN | apply Kd.R_drew)); exact HO_13.out⟩, ⟨by (with_reducible repeat (first | refine blk_drewN ?_ _ | refine blk_drew ?_ | refine blk_alloc ?_ _)); exact BK456.out⟩, ⟨by repeat (first | (with_reducible first | exact HB.out | apply below_alloc | apply pw_below_drewN | apply below_drew1 | refine below_set ?_ GE456.out) | exact HB.out)⟩⟩
                                                    · rw [if_neg c41] at H
                                                      exact absurd H (by simp)
                                                  · rw [if_neg c40] at H
                                                    exact absurd H (by simp)
                                                · rw [if_neg c39] at H
                                                  exact absurd H (by simp)
                                              · rw [if_neg c38] at H
                                                have c38b0 : decide (x14_7 < (t467.length : Int)) = false := decide_eq_false c38
                                                clear c38
                                                by_cases c53 : x12_7 ≥ 0
                                                · rw [if_pos c53] at H
                                                  have c53b0 : decide (0 ≤ x12_7) = true := decide_eq_true c53
                                                  clear c53
                                                  by_cases c54 : 0 ≤ x10_3
                                                  · rw [if_pos c54] at H
                                                    have c54b0 : decide (0 ≤ x10_3) = true := decide_eq_true c54
                                                    clear c54
                                                    by_cases c55 : x10_3 < (x7_3.length : Int)
                                                    · rw [if_pos c55] at H
                                                      have c55b0 : decide (x10_3 < (x7_3.length : Int)) = true := decide_eq_true c55
                                                      clear c55
                                                      by_cases c56 : (rd x7_3 x10_3) < 0
                                                      · rw [if_pos c56] at H
                                                        have c56b0 : decide ((rd x7_3 x10_3) < 0) = true := decide_eq_true c56
                                                        clear c56
                                                        obtain ⟨y473, hy473⟩ : ∃ y_ : List Int, y_ = (x7_3.set (x10_3 : Int).toNat x12_7) := ⟨_, rfl⟩
                                                        replace H : (spec_NeedOf.l2 k7 a1 a0_0 y473 true (wrap64 (x10_3 + 1)) a0_0 l0_1) = some (r1, r2) := by first | (rw [hy473]; with_reducible exact H) | (have H2_ := (Option.bind_some _ _).symm.trans H; rw [hy473]; with_reducible exact H2_) | (have H2_ := (Option.bind_some _ _).symm.trans H; with_reducible exact H2_) | with_reducible exact H | (rw [hy473]; exact H) | exact H
                                                        have Ny473 := Aside0.mk hy473
                                                        clear hy473
                                                        have H' := Aside0.mk H
                                                        clear H
                                                        obtain ⟨Ao58, co58, eo58⟩ := Kd.R_slice HO_13.out
                                                        subst eo58
                                                        obtain ⟨Ao59, co59, eo59⟩ := Kd.R_slice HO_7.out
                                                        subst eo59
                                                        have p472 : 0 ≤ (x10_3 : Int) := of_decide_eq_true (by first | (with_reducible assumption) | assumption)
                                                        have q472 : x10_3 < (x7_3.length : Int) := of_decide_eq_true (by first | (with_reducible assumption) | assumption)
                                                        obtain ⟨ad472, e472, hx472_0⟩ := Kd.at_int (Kd.R_reads' HO_7.out).2.2 x10_3 p472 q472
                                                        cases e472
                                                        replace p472 := eq_true p472
                                                        replace q472 := eq_true q472
                                                        have p57 : 0 ≤ (x10_3 : Int) := of_decide_eq_true (by first | (with_reducible assumption) | assumption)
                                                        have q57 : (x10_3 : Int) < ((x7_3.length : Int) : Int) := of_decide_eq_true (by first | (with_reducible assumption) | assumption)
                                                        obtain ⟨go57, co57, eo57, gb57, gl57, cl57, HG57⟩ := Kd.R_form HO_7.out (by omega)
                                                        (first | cases eo57 | (injection eo57 with ea_ en_ ec_; (first | subst ea_ | (injection ea_ with ea_; subst ea_)); subst ec_; clear en_))
                                                        have GB57 := Aside0.mk gb57
                                                        have GG57 := Aside0.mk HG57
                                                        clear gb57 gl57 HG57
                                                        (first | simp only [add_plain] at hx472_0 | skip)
                                                        obtain ⟨hx57_0, hf57_0⟩ := Kd.R_celln 0 HO_7.out (x10_3 : Int) p57 q57
                                                        replace p57 := eq_true p57
                                                        replace q57 := eq_true q57
                                                        have HP60 := Kd.R_putg HO_7.out (x10_3 : Int) x12_7
                                                        go_wp2_with (first | ((with_reducible refine gate_store (t := 2) (p := 133) rfl ?_); refine store_event (t := 2) (p := 133) (v := ?vo_w61) (w1 := (wr.setCell ⟨go57, (x10_3 : Int).toNat, none⟩ (.int .i64 x12_7))) ?hg ?ho ?hn ?hr ?_; (case ho => rfl); (case hg => rfl); (case hn => rfl); (case hr => first | (go_simp; done) | (go_simp; rfl)); intro w61 hw; have hg : wr.grownBy w61 (some go57) := (by rw [hw]; exact HP60.2); have hp_ : Kd.R (Kd.int .i64) 2 w61 w.heap.size (fun k_ => some k_ ≠ (.slice Ao58 t467.length co58 : Value).ownBlock) (.slice (some ⟨go57, 0, none⟩) x7_3.length co59) y473 := (by rw [hw, Ny473.out]; exact HP60.1); clear HP60; have n0_ := Aside0.mk (hp_); have n1_ := Aside0.mk (Kd.R_after (v := (.slice (some ⟨go57, 0, none⟩) x7_3.length co59)) (v1 := (.slice (some ⟨go57, 0, none⟩) x7_3.length co59)) (ok := (fun _ => True)) (by (with_reducible repeat (first | apply Kd.R_alloc | apply Kd.R_drewN | apply Kd.R_drew)); exact Kd.R_mono HO_13.out (fun _ hk => ⟨trivial, hk⟩)) hg (.inl rfl)); have n2_ := Aside0.mk (blk_grown (g := gb456) (o := .cells #[.int .i64 a0_0, .slice (some ad465) l0_1.length c0_1] 32 (0, 0)) (by (with_reducible repeat (first | refine blk_drewN ?_ _ | refine blk_drew ?_ | refine blk_alloc ?_ _)); exact BK456.out) hg (Kd.R_ne HO_7.out BK456.out (by decide))); have n3_ := Aside0.mk ((by rw [hw]; exact below_set (HB.out) GB57.out : Below w.heap.size w w61)); clear HO_7; clear HO_13; clear BK456; clear HB; have HO_7 := n0_; have HO_13 := n1_; have BK456 := n2_; have HB := n3_; clear n0_ n1_ n2_ n3_; clear hg hw hp_))
                                                        go_roundg k7
                                                        case measure => have := HK1.out; have := HK2.out; have := HK3.out; have := HJ23.out; have := HJ26.out; have := HJ33.out; have := HK7.out; omega
                                                        case rel => exact ⟨(y473), (true), (wrap64 (x10_3 + 1)), (by first | rfl | (simp; done) | (simp [*]; done)), (by first | rfl | (simp; done) | (simp [*]; done)), H', ⟨by have := HK1.out; have := HK2.out; have := HK3.out; have := HJ23.out; have := HJ26.out; have := HJ33.out; have := HK7.out; omega⟩, ⟨by (with_reducible repeat (first | apply Kd.R_alloc | apply Kd.R_drewN | apply Kd.R_drew)); exact Kd.R_mono HO_7.out (fun _ hk => trivial)⟩, ⟨by (with_reducible repeat (first | refine blk_drewN ?_ _ | refine blk_drew ?_ | refine blk_alloc ?_ _)); exact BK456.out⟩, ⟨by repeat (first | (with_reducible first | exact HB.out | apply below_alloc | apply pw_below_drewN | apply below_drew1 | refine below_set ?_ GE456.out) | exact HB.out)⟩⟩
                                                      · rw [if_neg c56] at H
                                                        have c56b0 : decide ((rd x7_3 x10_3) < 0) = false := decide_eq_false c56
                                                        clear c56
                                                        by_cases c62 : x12_7 < (rd x7_3 x10_3)
                                                        · rw [if_pos c62] at H
                                                          have c62b0 : decide (x12_7 < (rd x7_3 x10_3)) = true := decide_eq_true c62
                                                          clear c62
                                                          obtain ⟨y475, hy475⟩ : ∃ y_ : List Int, y_ = (x7_3.set (x10_3 : Int).toNat x12_7) := ⟨_, rfl⟩
                                                          replace H : (spec_NeedOf.l2 k7 a1 a0_0 y475 true (wrap64 (x10_3 + 1)) a0_0 l0_1) = some (r1, r2) := by first | (rw [hy475]; with_reducible exact H) | (have H2_ := (Option.bind_some _ _).symm.trans H; rw [hy475]; with_reducible exact H2_) | (have H2_ := (Option.bind_some _ _).symm.trans H; with_reducible exact H2_) | with_reducible exact H | (rw [hy475]; exact H) | exact H
                                                          have Ny475 := Aside0.mk hy475
                                                          clear hy475
                                                          have H' := Aside0.mk H
                                                          clear H
                                                          obtain ⟨Ao64, co64, eo64⟩ := Kd.R_slice HO_13.out
                                                          subst eo64
                                                          obtain ⟨Ao65, co65, eo65⟩ := Kd.R_slice HO_7.out
                                                          subst eo65
                                                          have p472 : 0 ≤ (x10_3 : Int) := of_decide_eq_true (by first | (with_reducible assumption) | assumption)
                                                          have q472 : x10_3 < (x7_3.length : Int) := of_decide_eq_true (by first | (with_reducible assumption) | assumption)
                                                          obtain ⟨ad472, e472, hx472_0⟩ := Kd.at_int (Kd.R_reads' HO_7.out).2.2 x10_3 p472 q472
                                                          cases e472
                                                          replace p472 := eq_true p472
                                                          replace q472 := eq_true q472
                                                          have p474 : 0 ≤ (x10_3 : Int) := of_decide_eq_true (by first | (with_reducible assumption) | assumption)
                                                          have q474 : x10_3 < (x7_3.length : Int) := of_decide_eq_true (by first | (with_reducible assumption) | assumption)
                                                          obtain ⟨ad474, e474, hx474_0⟩ := Kd.at_int (Kd.R_reads' HO_7.out).2.2 x10_3 p474 q474
                                                          obtain rfl : ad472 = ad474 := (by injection e474)
                                                          replace p474 := eq_true p474
                                                          replace q474 := eq_true q474
                                                          have p63 : 0 ≤ (x10_3 : Int) := of_decide_eq_true (by first | (with_reducible assumption) | assumption)
                                                          have q63 : (x10_3 : Int) < ((x7_3.length : Int) : Int) := of_decide_eq_true (by first | (with_reducible assumption) | assumption)
                                                          obtain ⟨go63, co63, eo63, gb63, gl63, cl63, HG63⟩ := Kd.R_form HO_7.out (by omega)
                                                          (first | cases eo63 | (injection eo63 with ea_ en_ ec_; (first | subst ea_ | (injection ea_ with ea_; subst ea_)); subst ec_; clear en_))
                                                          have GB63 := Aside0.mk gb63
                                                          have GG63 := Aside0.mk HG63
                                                          clear gb63 gl63 HG63
                                                          (first | simp only [add_plain] at hx472_0 | skip)
                                                          (first | simp only [add_plain] at hx474_0 | skip)
                                                          obtain ⟨hx63_0, hf63_0⟩ := Kd.R_celln 0 HO_7.out (x10_3 : Int) p63 q63
                                                          replace p63 := eq_true p63
                                                          replace q63 := eq_true q63
                                                          have HP66 := Kd.R_putg HO_7.out (x10_3 : Int) x12_7
                                                          go_wp2_with (first | ((with_reducible refine gate_store (t := 2) (p := 133) rfl ?_); refine store_event (t := 2) (p := 133) (v := ?vo_w67) (w1 := (wr.setCell ⟨go63, (x10_3 : Int).toNat, none⟩ (.int .i64 x12_7))) ?hg ?ho ?hn ?hr ?_; (case ho => rfl); (case hg => rfl); (case hn => rfl); (case hr => first | (go_simp; done) | (go_simp; rfl)); intro w67 hw; have hg : wr.grownBy w67 (some go63) := (by rw [hw]; exact HP66.2); have hp_ : Kd.R (Kd.int .i64) 2 w67 w.heap.size (fun k_ => some k_ ≠ (.slice Ao64 t467.length co64 : Value).ownBlock) (.slice (some ⟨go63, 0, none⟩) x7_3.length co65) y475 := (by rw [hw, Ny475.out]; exact HP66.1); clear HP66; have n0_ := Aside0.mk (hp_); have n1_ := Aside0.mk (Kd.R_after (v := (.slice (some ⟨go63, 0, none⟩) x7_3.length co65)) (v1 := (.slice (some ⟨go63, 0, none⟩) x7_3.length co65)) (ok := (fun _ => True)) (by (with_reducible repeat (first | apply Kd.R_alloc | apply Kd.R_drewN | apply Kd.R_drew)); exact Kd.R_mono HO_13.out (fun _ hk => ⟨trivial, hk⟩)) hg (.inl rfl)); have n2_ := Aside0.mk (blk_grown (g := gb456) (o := .cells #[.int .i64 a0_0, .slice (some ad465) l0_1.length c0_1] 32 (0, 0)) (by (with_reducible repeat (first | refine blk_drewN ?_ _ | refine blk_drew ?_ | refine blk_alloc ?_ _)); exact BK456.out) hg (Kd.R_ne HO_7.out BK456.out (by decide))); have n3_ := Aside0.mk ((by rw [hw]; exact below_set (HB.out) GB63.out : Below w.heap.size w w67)); clear HO_7; clear HO_13; clear BK456; clear HB; have HO_7 := n0_; have HO_13 := n1_; have BK456 := n2_; have HB := n3_; clear n0_ n1_ n2_ n3_; clear hg hw hp_))
                                                          go_roundg k7
                                                          case measure => have := HK1.out; have := HK2.out; have := HK3.out; have := HJ23.out; have := HJ26.out; have := HJ33.out; have := HK7.out; omega
                                                          case rel => exact ⟨(y475), (true), (wrap64 (x10_3 + 1)), (by first | rfl | (simp; done) | (simp [*]; done)), (by first | rfl | (simp; done) | (simp [*]; done)), H', ⟨by have := HK1.out; have := HK2.out; have := HK3.out; have := HJ23.out; have := HJ26.out; have := HJ33.out; have := HK7.out; omega⟩, ⟨by (with_reducible repeat (first | apply Kd.R_alloc | apply Kd.R_drewN | apply Kd.R_drew)); exact Kd.R_mono HO_7.out (fun _ hk => trivial)⟩, ⟨by (with_reducible repeat (first | refine blk_drewN ?_ _ | refine blk_drew ?_ | refine blk_alloc ?_ _)); exact BK456.out⟩, ⟨by repeat (first | (with_reducible first | exact HB.out | apply below_alloc | apply pw_below_drewN | apply below_drew1 | refine below_set ?_ GE456.out) | exact HB.out)⟩⟩
                                                        · rw [if_neg c62] at H
                                                          have c62b0 : decide (x12_7 < (rd x7_3 x10_3)) = false := decide_eq_false c62
                                                          clear c62
                                                          have H' := Aside0.mk H
                                                          clear H
                                                          obtain ⟨Ao68, co68, eo68⟩ := Kd.R_slice HO_13.out
                                                          subst eo68
                                                          obtain ⟨Ao69, co69, eo69⟩ := Kd.R_slice HO_7.out
                                                          subst eo69
                                                          have p472 : 0 ≤ (x10_3 : Int) := of_decide_eq_true (by first | (with_reducible assumption) | assumption)
                                                          have q472 : x10_3 < (x7_3.length : Int) := of_decide_eq_true (by first | (with_reducible assumption) | assumption)
                                                          obtain ⟨ad472, e472, hx472_0⟩ := Kd.at_int (Kd.R_reads' HO_7.out).2.2 x10_3 p472 q472
                                                          cases e472
                                                          replace p472 := eq_true p472
                                                          replace q472 := eq_true q472
                                                          have p474 : 0 ≤ (x10_3 : Int) := of_decide_eq_true (by first | (with_reducible assumption) | assumption)
                                                          have q474 : x10_3 < (x7_3.length : Int) := of_decide_eq_true (by first | (with_reducible assumption) | assumption)
                                                          obtain ⟨ad474, e474, hx474_0⟩ := Kd.at_int (Kd.R_reads' HO_7.out).2.2 x10_3 p474 q474
                                                          obtain rfl : ad472 = ad474 := (by injection e474)
                                                          replace p474 := eq_true p474
                                                          replace q474 := eq_true q474
                                                          go_wp2
                                                          go_roundg k7
                                                          case measure => have := HK1.out; have := HK2.out; have := HK3.out; have := HJ23.out; have := HJ26.out; have := HJ33.out; have := HK7.out; omega
                                                          case rel => exact ⟨(x7_3), (x9_3), (wrap64 (x10_3 + 1)), (by first | rfl | (simp; done) | (simp [*]; done)), (by first | rfl | (simp; done) | (simp [*]; done)), H', ⟨by have := HK1.out; have := HK2.out; have := HK3.out; have := HJ23.out; have := HJ26.out; have := HJ33.out; have := HK7.out; omega⟩, ⟨by (with_reducible repeat (first | apply Kd.R_alloc | apply Kd.R_drewN | apply Kd.R_drew)); exact Kd.R_mono HO_7.out (fun _ hk => trivial)⟩, ⟨by (with_reducible repeat (first | refine blk_drewN ?_ _ | refine blk_drew ?_ | refine blk_alloc ?_ _)); exact BK456.out⟩, ⟨by repeat (first | (with_reducible first | exact HB.out | apply below_alloc | apply pw_below_drewN | apply below_drew1 | refine below_set ?_ GE456.out) | exact HB.out)⟩⟩
                                                    · rw [if_neg c55] at H
                                                      exact absurd H (by simp)
                                                  · rw [if_neg c54] at H
                                                    exact absurd H (by simp)
                                                · rw [if_neg c53] at H
                                                  have c53b0 : decide (0 ≤ x12_7) = false := decide_eq_false c53
                                                  clear c53
                                                  have H' := Aside0.mk H
                                                  clear H
                                                  obtain ⟨Ao70, co70, eo70⟩ := Kd.R_slice HO_13.out
                                                  subst eo70
                                                  go_wp2
                                                  go_roundg k7
                                                  case measure => have := HK1.out; have := HK2.out; have := HK3.out; have := HJ23.out; have := HJ26.out; have := HJ33.out; have := HK7.out; omega
                                                  case rel => exact ⟨(x7_3), (x9_3), (wrap64 (x10_3 + 1)), (by first | rfl | (simp; done) | (simp [*]; done)), (by first | rfl | (simp; done) | (simp [*]; done)), H', ⟨by have := HK1.out; have := HK2.out; have := HK3.out; have := HJ23.out; have := HJ26.out; have := HJ33.out; have := HK7.out; omega⟩, ⟨by (with_reducible repeat (first | apply Kd.R_alloc | apply Kd.R_drewN | apply Kd.R_drew)); exact Kd.R_mono HO_7.out (fun _ hk => trivial)⟩, ⟨by (with_reducible repeat (first | refine blk_drewN ?_ _ | refine blk_drew ?_ | refine blk_alloc ?_ _)); exact BK456.out⟩, ⟨by repeat (first | (with_reducible first | exact HB.out | apply below_alloc | apply pw_below_drewN | apply below_drew1 | refine below_set ?_ GE456.out) | exact HB.out)⟩⟩
                          · rw [if_neg c21] at H
                            exact absurd H (by simp)
                        · rw [if_neg c20] at H
                          exact absurd H (by simp)
                      · rw [if_neg c19] at H
                        have c19b0 : decide (x10_3 < (wrap64 (a0_0 * a0_0))) = false := decide_eq_false c19
                        clear c19
                        have H' := Aside0.mk H
                        clear H
                        go_wp2
                        go_roundg k3
                        case measure => have := HK1.out; have := HK2.out; have := HK3.out; omega
                        case rel => exact ⟨(x7_3), (x9_3), (by first | rfl | (simp; done) | (simp [*]; done)), H', ⟨by have := HK1.out; have := HK2.out; have := HK3.out; omega⟩, ⟨by (with_reducible repeat (first | apply Kd.R_alloc | apply Kd.R_drewN | apply Kd.R_drew)); exact HO_7.out⟩, ⟨by (with_reducible repeat (first | refine blk_drewN ?_ _ | refine blk_drew ?_ | refine blk_alloc ?_ _)); exact BK456.out⟩, ⟨by repeat (first | (with_reducible first | exact HB.out | apply below_alloc | apply pw_below_drewN | apply below_drew1 | refine below_set ?_ GE456.out) | exact HB.out)⟩⟩
                · replace c18 := Bool.eq_false_iff.mpr c18
                  subst c18
                  have H1 : (spec_NeedOf.l4 k2 a1 a0_0 x7_2 (-1) 0) = some (r1, r2) := by rw [if_neg (show ¬ (false = true) by decide)] at H; exact H
                  clear H
                  have H := H1
                  clear H1
                  have H' := Aside0.mk H
                  clear H
                  go_wp2
                  go_loopg [16, 17] k2 (fun kq v16 v17 w' => ∃ (x16_3 : Int) (x17_3 : Int), v16 = .int .i64 x16_3 ∧ v17 = .int .i64 x17_3 ∧ Aside0 (spec_NeedOf.l4 kq a1 a0_0 x7_2 x16_3 x17_3 = some (r1, r2)) ∧ Aside0 (kq ≤ k2) ∧ Aside0 (Kd.R (Kd.int .i64) 2 w' w.heap.size (fun _ => True) u7 x7_2) ∧ Aside0 (w'.heap[gb456]? = some (.cells #[.int .i64 a0_0, (.slice A0_1 l0_1.length c0_1)] 32 (0, 0))) ∧ Aside0 (Below w.heap.size w w'))
                  case atStart => exact ⟨((-1)), (0), (by first | rfl | (simp; done) | (simp [*]; done)), (by first | rfl | (simp; done) | (simp [*]; done)), H', ⟨Nat.le_refl _⟩, ⟨by (with_reducible repeat (first | apply Kd.R_alloc | apply Kd.R_drewN | apply Kd.R_drew)); exact HO_7.out⟩, ⟨by (with_reducible repeat (first | refine blk_drewN ?_ _ | refine blk_drew ?_ | refine blk_alloc ?_ _)); exact BK456.out⟩, ⟨by repeat (first | (with_reducible first | exact HB.out | apply below_alloc | apply pw_below_drewN | apply below_drew1 | refine below_set ?_ GE456.out) | exact HB.out)⟩⟩
                  case round =>
                    clear H'
                    try clear c1
                    try clear c2
                    try clear p2
                    try clear c3
                    try clear c4
                    try clear p4
                    try clear q4
                    try clear hx4
                    try clear c5
                    try clear p5
                    try clear q5
                    try clear hx5
                    try clear hf5
                    try clear c6
                    try clear p6
                    try clear q6
                    try clear hx6
                    try clear hf6
                    try clear c13
                    try clear c13b0
                    try clear c14
                    try clear c18
                    try clear c19
                    try clear c19b0
                    try clear c20
                    try clear c20b0
                    try clear c21
                    try clear c21b0
                    try clear c22
                    try clear c22b0
                    try clear c22b1
                    try clear c26
                    try clear c26b0
                    try clear c26b1
                    try clear c28
                    try clear c28b0
                    try clear c28b1
                    try clear c29
                    try clear c29b0
                    try clear c30
                    try clear c30b0
                    try clear c30b1
                    try clear c31
                    try clear c31b0
                    try clear c31b1
                    try clear c32
                    try clear c32b0
                    try clear c32b1
                    try clear c33
                    try clear c33b0
                    try clear c33b1
                    try clear c34
                    try clear c35
                    try clear c38
                    try clear c38b0
                    try clear c39
                    try clear c39b0
                    try clear c40
                    try clear c40b0
                    try clear c41
                    try clear c41b0
                    try clear c42
                    try clear c42b0
                    try clear c43
                    try clear c43b0
                    try clear c46
                    try clear c46b0
                    try clear p46
                    try clear q46
                    try clear hx46
                    try clear p47
                    try clear q47
                    try clear hx47
                    try clear c53
                    try clear c53b0
                    try clear c54
                    try clear c54b0
                    try clear c55
                    try clear c55b0
                    try clear c56
                    try clear c56b0
                    try clear p57
                    try clear q57
                    try clear hx57
                    try clear hf57
                    try clear c62
                    try clear c62b0
                    try clear p63
                    try clear q63
                    try clear hx63
                    try clear hf63
                    try clear p64
                    try clear hcz10_0
                    try clear hcz10_1
                    try clear hcz15_0
                    try clear hcz15_1
                    try clear hcz17_0
                    try clear hcz17_1
                    try clear hcz23_0
                    try clear hcz23_1
                    try clear hcz25_0
                    try clear hcz25_1
                    try clear hcz8_0
                    try clear hcz8_1
                    try clear hfz10_0
                    try clear hfz10_1
                    try clear hfz15_0
                    try clear hfz15_1
                    try clear hfz17_0
                    try clear hfz17_1
                    try clear hfz23_0
                    try clear hfz23_1
                    try clear hfz25_0
                    try clear hfz25_1
                    try clear hfz8_0
                    try clear hfz8_1
                    try clear hx465_0
                    try clear hx466_0
                    try clear hx470_0
                    try clear hx471_0
                    try clear hx472_0
                    try clear hx474_0
                    try clear hx57_0
                    try clear hx63_0
                    try clear p2
                    try clear p4
                    try clear p465
                    try clear p466
                    try clear p470
                    try clear p471
                    try clear p472
                    try clear p474
                    try clear p57
                    try clear p6
                    try clear p63
                    try clear q4
                    try clear q465
                    try clear q466
                    try clear q470
                    try clear q471
                    try clear q472
                    try clear q474
                    try clear q57
                    try clear q63
                    obtain ⟨x16_3, x17_3, rfl, rfl, HA, HK3, HO_7, BK456, HB⟩ := hrel
                    cases gk with
                    | zero => exact absurd HA.out (by simp [spec_NeedOf.l4])
                    | succ k3 =>
                      have H := HA.out
                      clear HA
                      simp only [spec_NeedOf.l4] at H
                      by_cases c71 : x17_3 < a0_0
                      · rw [if_pos c71] at H
                        have c71b0 : decide (x17_3 < a0_0) = true := decide_eq_true c71
                        clear c71
                        by_cases c72 : a1 = 2
                        · rw [if_pos c72] at H
                          have c72b0 : (a1 == 2) = true := beq_iff_eq.mpr c72
                          have c72b1 : (a1 != 2) = false := bne_eq_false_iff_eq.mpr c72
                          clear c72
                          obtain ⟨ji73, hji73⟩ : ∃ j_ : Int, (wrap64 ((wrap64 ((wrap64 (a0_0 * x17_3)) + a0_0)) - 1)) = j_ := ⟨_, rfl⟩
                          replace H : (if 0 ≤ (ji73) then (if (ji73) < (x7_2.length : Int) then (if (rd x7_2 (ji73)) ≥ 0 then (if x16_3 < 0 then (spec_NeedOf.l4 k3 a1 a0_0 x7_2 (rd x7_2 (ji73)) (wrap64 (x17_3 + 1))) else (if (rd x7_2 (ji73)) < x16_3 then (spec_NeedOf.l4 k3 a1 a0_0 x7_2 (rd x7_2 (ji73)) (wrap64 (x17_3 + 1))) else (spec_NeedOf.l4 k3 a1 a0_0 x7_2 x16_3 (wrap64 (x17_3 + 1))))) else (spec_NeedOf.l4 k3 a1 a0_0 x7_2 x16_3 (wrap64 (x17_3 + 1)))) else (none)) else (none)) = some (r1, r2) := by first | (rw [hji73] at H; exact H) | (simp only [hji73] at H ⊢; exact H)
                          have hji73w : (IntKind.i64.wrap ((wrap64 ((wrap64 (a0_0 * x17_3)) + a0_0)) - 1)) = ji73 := (i64_w _).trans hji73
                          by_cases c74 : 0 ≤ (ji73)
                          · rw [if_pos c74] at H
                            have c74b0 : decide (0 ≤ (ji73)) = true := decide_eq_true c74
                            clear c74
                            by_cases c75 : (ji73) < (x7_2.length : Int)
                            · rw [if_pos c75] at H
                              have c75b0 : decide ((ji73) < (x7_2.length : Int)) = true := decide_eq_true c75
                              clear c75
                              by_cases c76 : (rd x7_2 (ji73)) ≥ 0
                              · rw [if_pos c76] at H
                                have c76b0 : decide (0 ≤ (rd x7_2 (ji73))) = true := decide_eq_true c76
                                clear c76
                                by_cases c77 : x16_3 < 0
                                · rw [if_pos c77] at H
                                  have c77b0 : decide (x16_3 < 0) = true := decide_eq_true c77
                                  clear c77
                                  have H' := Aside0.mk H
                                  clear H
                                  obtain ⟨Ao78, co78, eo78⟩ := Kd.R_slice HO_7.out
                                  subst eo78
                                  have p476 : 0 ≤ ((ji73) : Int) := of_decide_eq_true (by first | (with_reducible assumption) | assumption)
                                  have q476 : (ji73) < (x7_2.length : Int) := of_decide_eq_true (by first | (with_reducible assumption) | assumption)
                                  obtain ⟨ad476, e476, hx476_0⟩ := Kd.at_int (Kd.R_reads' HO_7.out).2.2 (ji73) p476 q476
                                  cases e476
                                  replace p476 := eq_true p476
                                  replace q476 := eq_true q476
                                  go_wp2
                                  go_roundg k3
                                  case measure => have := HK1.out; have := HK2.out; have := HK3.out; omega
                                  case rel => exact ⟨(rd x7_2 (ji73)), (wrap64 (x17_3 + 1)), (by first | rfl | (simp; done) | (simp only [← hji73] <;> (first | rfl | simp)) | (simp [*]; done)), (by first | rfl | (simp; done) | (simp [*]; done)), H', ⟨by have := HK1.out; have := HK2.out; have := HK3.out; omega⟩, ⟨by (with_reducible repeat (first | apply Kd.R_alloc | apply Kd.R_drewN | apply Kd.R_drew)); exact HO_7.out⟩, ⟨by (with_reducible repeat (first | refine blk_drewN ?_ _ | refine blk_drew ?_ | refine blk_alloc ?_ _)); exact BK456.out⟩, ⟨by repeat (first | (with_reducible first | exact HB.out | apply below_alloc | apply pw_below_drewN | apply below_drew1 | refine below_set ?_ GE456.out) | exact HB.out)⟩⟩
                                · rw [if_neg c77] at H
                                  have c77b0 : decide (x16_3 < 0) = false := decide_eq_false c77
                                  clear c77
                                  by_cases c79 : (rd x7_2 (ji73)) < x16_3
                                  · rw [if_pos c79] at H
                                    have c79b0 : decide ((rd x7_2 (ji73)) < x16_3) = true := decide_eq_true c79
                                    clear c79
                                    have H' := Aside0.mk H
                                    clear H
                                    obtain ⟨Ao80, co80, eo80⟩ := Kd.R_slice HO_7.out
                                    subst eo80
                                    have p476 : 0 ≤ ((ji73) : Int) := of_decide_eq_true (by first | (with_reducible assumption) | assumption)
                                    have q476 : (ji73) < (x7_2.length : Int) := of_decide_eq_true (by first | (with_reducible assumption) | assumption)
                                    obtain ⟨ad476, e476, hx476_0⟩ := Kd.at_int (Kd.R_reads' HO_7.out).2.2 (ji73) p476 q476
                                    cases e476
                                    replace p476 := eq_true p476
                                    replace q476 := eq_true q476
                                    go_wp2
                                    go_roundg k3
                                    case measure => have := HK1.out; have := HK2.out; have := HK3.out; omega
                                    case rel => exact ⟨(rd x7_2 (ji73)), (wrap64 (x17_3 + 1)), (by first | rfl | (simp; done) | (simp only [← hji73] <;> (first | rfl | simp)) | (simp [*]; done)), (by first | rfl | (simp; done) | (simp [*]; done)), H', ⟨by have := HK1.out; have := HK2.out; have := HK3.out; omega⟩, ⟨by (with_reducible repeat (first | apply Kd.R_alloc | apply Kd.R_drewN | apply Kd.R_drew)); exact HO_7.out⟩, ⟨by (with_reducible repeat (first | refine blk_drewN ?_ _ | refine blk_drew ?_ | refine blk_alloc ?_ _)); exact BK456.out⟩, ⟨by repeat (first | (with_reducible first | exact HB.out | apply below_alloc | apply pw_below_drewN | apply below_drew1 | refine below_set ?_ GE456.out) | exact HB.out)⟩⟩
                                  · rw [if_neg c79] at H
                                    have c79b0 : decide ((rd x7_2 (ji73)) < x16_3) = false := decide_eq_false c79
                                    clear c79
                                    have H' := Aside0.mk H
                                    clear H
                                    obtain ⟨Ao81, co81, eo81⟩ := Kd.R_slice HO_7.out
                                    subst eo81
                                    have p476 : 0 ≤ ((ji73) : Int) := of_decide_eq_true (by first | (with_reducible assumption) | assumption)
                                    have q476 : (ji73) < (x7_2.length : Int) := of_decide_eq_true (by first | (with_reducible assumption) | assumption)
                                    obtain ⟨ad476, e476, hx476_0⟩ := Kd.at_int (Kd.R_reads' HO_7.out).2.2 (ji73) p476 q476
                                    cases e476
                                    replace p476 := eq_true p476
                                    replace q476 := eq_true q476
                                    go_wp2
                                    go_roundg k3
                                    case measure => have := HK1.out; have := HK2.out; have := HK3.out; omega
                                    case rel => exact ⟨(x16_3), (wrap64 (x17_3 + 1)), (by first | rfl | (simp; done) | (simp [*]; done)), (by first | rfl | (simp; done) | (simp [*]; done)), H', ⟨by have := HK1.out; have := HK2.out; have := HK3.out; omega⟩, ⟨by (with_reducible repeat (first | apply Kd.R_alloc | apply Kd.R_drewN | apply Kd.R_drew)); exact HO_7.out⟩, ⟨by (with_reducible repeat (first | refine blk_drewN ?_ _ | refine blk_drew ?_ | refine blk_alloc ?_ _)); exact BK456.out⟩, ⟨by repeat (first | (with_reducible first | exact HB.out | apply below_alloc | apply pw_below_drewN | apply below_drew1 | refine below_set ?_ GE456.out) | exact HB.out)⟩⟩
                              · rw [if_neg c76] at H
                                have c76b0 : decide (0 ≤ (rd x7_2 (ji73))) = false := decide_eq_false c76
                                clear c76
                                have H' := Aside0.mk H
                                clear H
                                obtain ⟨Ao82, co82, eo82⟩ := Kd.R_slice HO_7.out
                                subst eo82
                                have p476 : 0 ≤ ((ji73) : Int) := of_decide_eq_true (by first | (with_reducible assumption) | assumption)
                                have q476 : (ji73) < (x7_2.length : Int) := of_decide_eq_true (by first | (with_reducible assumption) | assumption)
                                obtain ⟨ad476, e476, hx476_0⟩ := Kd.at_int (Kd.R_reads' HO_7.out).2.2 (ji73) p476 q476
                                cases e476
                                replace p476 := eq_true p476
                                replace q476 := eq_true q476
                                go_wp2
                                go_roundg k3
                                case measure => have := HK1.out; have := HK2.out; have := HK3.out; omega
                                case rel => exact ⟨(x16_3), (wrap64 (x17_3 + 1)), (by first | rfl | (simp; done) | (simp [*]; done)), (by first | rfl | (simp; done) | (simp [*]; done)), H', ⟨by have := HK1.out; have := HK2.out; have := HK3.out; omega⟩, ⟨by (with_reducible repeat (first | apply Kd.R_alloc | apply Kd.R_drewN | apply Kd.R_drew)); exact HO_7.out⟩, ⟨by (with_reducible repeat (first | refine blk_drewN ?_ _ | refine blk_drew ?_ | refine blk_alloc ?_ _)); exact BK456.out⟩, ⟨by repeat (first | (with_reducible first | exact HB.out | apply below_alloc | apply pw_below_drewN | apply below_drew1 | refine below_set ?_ GE456.out) | exact HB.out)⟩⟩
                            · rw [if_neg c75] at H
                              exact absurd H (by simp)
                          · rw [if_neg c74] at H
                            exact absurd H (by simp)
                        · rw [if_neg c72] at H
                          have c72b0 : (a1 == 2) = false := beq_eq_false_iff_ne.mpr c72
                          have c72b1 : (a1 != 2) = true := bne_iff_ne.mpr c72
                          obtain ⟨ji83, hji83⟩ : ∃ j_ : Int, (wrap64 ((wrap64 (a0_0 * (wrap64 (a0_0 - 1)))) + x17_3)) = j_ := ⟨_, rfl⟩
                          replace H : (if 0 ≤ (ji83) then (if (ji83) < (x7_2.length : Int) then (if (rd x7_2 (ji83)) ≥ 0 then (if x16_3 < 0 then (spec_NeedOf.l4 k3 a1 a0_0 x7_2 (rd x7_2 (ji83)) (wrap64 (x17_3 + 1))) else (if (rd x7_2 (ji83)) < x16_3 then (spec_NeedOf.l4 k3 a1 a0_0 x7_2 (rd x7_2 (ji83)) (wrap64 (x17_3 + 1))) else (spec_NeedOf.l4 k3 a1 a0_0 x7_2 x16_3 (wrap64 (x17_3 + 1))))) else (spec_NeedOf.l4 k3 a1 a0_0 x7_2 x16_3 (wrap64 (x17_3 + 1)))) else (none)) else (none)) = some (r1, r2) := by first | (rw [hji83] at H; exact H) | (simp only [hji83] at H ⊢; exact H)
                          have hji83w : (IntKind.i64.wrap ((wrap64 (a0_0 * (wrap64 (a0_0 - 1)))) + x17_3)) = ji83 := (i64_w _).trans hji83
                          by_cases c84 : 0 ≤ (ji83)
                          · rw [if_pos c84] at H
                            have c84b0 : decide (0 ≤ (ji83)) = true := decide_eq_true c84
                            clear c84
                            by_cases c85 : (ji83) < (x7_2.length : Int)
                            · rw [if_pos c85] at H
                              have c85b0 : decide ((ji83) < (x7_2.length : Int)) = true := decide_eq_true c85
                              clear c85
                              by_cases c86 : (rd x7_2 (ji83)) ≥ 0
                              · rw [if_pos c86] at H
                                have c86b0 : decide (0 ≤ (rd x7_2 (ji83))) = true := decide_eq_true c86
                                clear c86
                                by_cases c87 : x16_3 < 0
                                · rw [if_pos c87] at H
                                  have c87b0 : decide (x16_3 < 0) = true := decide_eq_true c87
                                  clear c87
                                  have H' := Aside0.mk H
                                  clear H
                                  obtain ⟨Ao88, co88, eo88⟩ := Kd.R_slice HO_7.out
                                  subst eo88
                                  have p477 : 0 ≤ ((ji83) : Int) := of_decide_eq_true (by first | (with_reducible assumption) | assumption)
                                  have q477 : (ji83) < (x7_2.length : Int) := of_decide_eq_true (by first | (with_reducible assumption) | assumption)
                                  obtain ⟨ad477, e477, hx477_0⟩ := Kd.at_int (Kd.R_reads' HO_7.out).2.2 (ji83) p477 q477
                                  cases e477
                                  replace p477 := eq_true p477
                                  replace q477 := eq_true q477
                                  go_wp2
                                  go_roundg k3
                                  case measure => have := HK1.out; have := HK2.out; have := HK3.out; omega
                                  case rel => exact ⟨(rd x7_2 (ji83)), (wrap64 (x17_3 + 1)), (by first | rfl | (simp; done) | (simp only [← hji83] <;> (first | rfl | simp)) | (simp [*]; done)), (by first | rfl | (simp; done) | (simp [*]; done)), H', ⟨by have := HK1.out; have := HK2.out; have := HK3.out; omega⟩, ⟨by (with_reducible repeat (first | apply Kd.R_alloc | apply Kd.R_drewN | apply Kd.R_drew)); exact HO_7.out⟩, ⟨by (with_reducible repeat (first | refine blk_drewN ?_ _ | refine blk_drew ?_ | refine blk_alloc ?_ _)); exact BK456.out⟩, ⟨by repeat (first | (with_reducible first | exact HB.out | apply below_alloc | apply pw_below_drewN | apply below_drew1 | refine below_set ?_ GE456.out) | exact HB.out)⟩⟩
                                · rw [if_neg c87] at H
                                  have c87b0 : decide (x16_3 < 0) = false := decide_eq_false c87
                                  clear c87
                                  by_cases c89 : (rd x7_2 (ji83)) < x16_3
                                  · rw [if_pos c89] at H
                                    have c89b0 : decide ((rd x7_2 (ji83)) < x16_3) = true := decide_eq_true c89
                                    clear c89
                                    have H' := Aside0.mk H
                                    clear H
                                    obtain ⟨Ao90, co90, eo90⟩ := Kd.R_slice HO_7.out
                                    subst eo90
                                    have p477 : 0 ≤ ((ji83) : Int) := of_decide_eq_true (by first | (with_reducible assumption) | assumption)
                                    have q477 : (ji83) < (x7_2.length : Int) := of_decide_eq_true (by first | (with_reducible assumption) | assumption)
                                    obtain ⟨ad477, e477, hx477_0⟩ := Kd.at_int (Kd.R_reads' HO_7.out).2.2 (ji83) p477 q477
                                    cases e477
                                    replace p477 := eq_true p477
                                    replace q477 := eq_true q477
                                    go_wp2
                                    go_roundg k3
                                    case measure => have := HK1.out; have := HK2.out; have := HK3.out; omega
                                    case rel => exact ⟨(rd x7_2 (ji83)), (wrap64 (x17_3 + 1)), (by first | rfl | (simp; done) | (simp only [← hji83] <;> (first | rfl | simp)) | (simp [*]; done)), (by first | rfl | (simp; done) | (simp [*]; done)), H', ⟨by have := HK1.out; have := HK2.out; have := HK3.out; omega⟩, ⟨by (with_reducible repeat (first | apply Kd.R_alloc | apply Kd.R_drewN | apply Kd.R_drew)); exact HO_7.out⟩, ⟨by (with_reducible repeat (first | refine blk_drewN ?_ _ | refine blk_drew ?_ | refine blk_alloc ?_ _)); exact BK456.out⟩, ⟨by repeat (first | (with_reducible first | exact HB.out | apply below_alloc | apply pw_below_drewN | apply below_drew1 | refine below_set ?_ GE456.out) | exact HB.out)⟩⟩
                                  · rw [if_neg c89] at H
                                    have c89b0 : decide ((rd x7_2 (ji83)) < x16_3) = false := decide_eq_false c89
                                    clear c89
                                    have H' := Aside0.mk H
                                    clear H
                                    obtain ⟨Ao91, co91, eo91⟩ := Kd.R_slice HO_7.out
                                    subst eo91
                                    have p477 : 0 ≤ ((ji83) : Int) := of_decide_eq_true (by first | (with_reducible assumption) | assumption)
                                    have q477 : (ji83) < (x7_2.length : Int) := of_decide_eq_true (by first | (with_reducible assumption) | assumption)
                                    obtain ⟨ad477, e477, hx477_0⟩ := Kd.at_int (Kd.R_reads' HO_7.out).2.2 (ji83) p477 q477
                                    cases e477
                                    replace p477 := eq_true p477
                                    replace q477 := eq_true q477
                                    go_wp2
                                    go_roundg k3
                                    case measure => have := HK1.out; have := HK2.out; have := HK3.out; omega
                                    case rel => exact ⟨(x16_3), (wrap64 (x17_3 + 1)), (by first | rfl | (simp; done) | (simp [*]; done)), (by first | rfl | (simp; done) | (simp [*]; done)), H', ⟨by have := HK1.out; have := HK2.out; have := HK3.out; omega⟩, ⟨by (with_reducible repeat (first | apply Kd.R_alloc | apply Kd.R_drewN | apply Kd.R_drew)); exact HO_7.out⟩, ⟨by (with_reducible repeat (first | refine blk_drewN ?_ _ | refine blk_drew ?_ | refine blk_alloc ?_ _)); exact BK456.out⟩, ⟨by repeat (first | (with_reducible first | exact HB.out | apply below_alloc | apply pw_below_drewN | apply below_drew1 | refine below_set ?_ GE456.out) | exact HB.out)⟩⟩
                              · rw [if_neg c86] at H
                                have c86b0 : decide (0 ≤ (rd x7_2 (ji83))) = false := decide_eq_false c86
                                clear c86
                                have H' := Aside0.mk H
                                clear H
                                obtain ⟨Ao92, co92, eo92⟩ := Kd.R_slice HO_7.out
                                subst eo92
                                have p477 : 0 ≤ ((ji83) : Int) := of_decide_eq_true (by first | (with_reducible assumption) | assumption)
                                have q477 : (ji83) < (x7_2.length : Int) := of_decide_eq_true (by first | (with_reducible assumption) | assumption)
                                obtain ⟨ad477, e477, hx477_0⟩ := Kd.at_int (Kd.R_reads' HO_7.out).2.2 (ji83) p477 q477
                                cases e477
                                replace p477 := eq_true p477
                                replace q477 := eq_true q477
                                go_wp2
                                go_roundg k3
                                case measure => have := HK1.out; have := HK2.out; have := HK3.out; omega
                                case rel => exact ⟨(x16_3), (wrap64 (x17_3 + 1)), (by first | rfl | (simp; done) | (simp [*]; done)), (by first | rfl | (simp; done) | (simp [*]; done)), H', ⟨by have := HK1.out; have := HK2.out; have := HK3.out; omega⟩, ⟨by (with_reducible repeat (first | apply Kd.R_alloc | apply Kd.R_drewN | apply Kd.R_drew)); exact HO_7.out⟩, ⟨by (with_reducible repeat (first | refine blk_drewN ?_ _ | refine blk_drew ?_ | refine blk_alloc ?_ _)); exact BK456.out⟩, ⟨by repeat (first | (with_reducible first | exact HB.out | apply below_alloc | apply pw_below_drewN | apply below_drew1 | refine below_set ?_ GE456.out) | exact HB.out)⟩⟩
                            · rw [if_neg c85] at H
                              exact absurd H (by simp)
                          · rw [if_neg c84] at H
                            exact absurd H (by simp)
                      · rw [if_neg c71] at H
                        have c71b0 : decide (x17_3 < a0_0) = false := decide_eq_false c71
                        clear c71
                        by_cases c93 : x16_3 < 0
                        · rw [if_pos c93] at H
                          have c93b0 : decide (x16_3 < 0) = true := decide_eq_true c93
                          clear c93
                          simp only [Option.some.injEq, Prod.mk.injEq] at H
                          obtain ⟨rfl, rfl⟩ := H
                          go_wp2
                          go_ret2
                          exact ⟨by first | rfl | (simp [errW_none, errW_some] <;> rfl) | (simp [*, errW_none, errW_some] <;> rfl), by repeat (first | (with_reducible first | exact HB.out | apply below_alloc | apply pw_below_drewN | apply below_drew1 | refine below_set ?_ GE456.out) | exact HB.out)⟩
                        · rw [if_neg c93] at H
                          have c93b0 : decide (x16_3 < 0) = false := decide_eq_false c93
                          clear c93
                          simp only [Option.some.injEq, Prod.mk.injEq] at H
                          obtain ⟨rfl, rfl⟩ := H
                          go_wp2
                          go_ret2
                          exact ⟨by first | rfl | (simp [errW_none, errW_some] <;> rfl) | (simp [*, errW_none, errW_some] <;> rfl), by repeat (first | (with_reducible first | exact HB.out | apply below_alloc | apply pw_below_drewN | apply below_drew1 | refine below_set ?_ GE456.out) | exact HB.out)⟩
    · replace c6 := Bool.eq_false_iff.mpr c6
      subst c6
      have H1 : (some (0, 2)) = some (r1, r2) := by rw [if_neg (show ¬ (false = true) by decide)] at H; exact H
      clear H
      have H := H1
      clear H1
      simp only [Option.some.injEq, Prod.mk.injEq] at H
      obtain ⟨rfl, rfl⟩ := H
      go_enter Try.func31, Try.ntmps31
      go_wp2_with (first | ((with_reducible refine gate_dst (N := 2) rfl ?_); refine box_event ?hg (N := 2) ?hd (cs := #[.int .i64 a0_0, .slice A0_1 l0_1.length c0_1]) (t := 32) ?hr ?_; (case hd => rfl); (case hg => rfl); (case hr => first | (go_simp; done) | (go_simp; rfl)); intro gb456 hg w94 hbox hb; have n0_ := Aside0.mk (below_step (by repeat (first | (with_reducible first | exact HB.out | apply below_alloc | apply pw_below_drewN | apply below_drew1) | exact HB.out)) hb); have n1_ := Aside0.mk (hbox); have n2_ := Aside0.mk ((by rw [hg]; exact (below_size (by repeat (first | (with_reducible first | exact HB.out | apply below_alloc | apply pw_below_drewN | apply below_drew1) | exact HB.out))) : w.heap.size ≤ gb456)); have n3_ := Aside0.mk ((by rw [hg]; exact (below_size (by repeat (first | (with_reducible first | exact HB.out | apply below_alloc | apply pw_below_drewN | apply below_drew1) | exact HB.out))) : w.heap.size ≤ gb456)); clear HB; have HB := n0_; have BK456 := n1_; have GW456 := n2_; have GE456 := n3_; clear n0_ n1_ n2_ n3_; clear hb hbox hg; have hcz95_0 : w94.cell? ⟨gb456, 0, none⟩ = some (.int .i64 a0_0) := (blk_cell BK456.out 0).trans rfl; have hcz95_1 : w94.cell? ⟨gb456, 1, none⟩ = some (.slice A0_1 l0_1.length c0_1) := (blk_cell BK456.out 1).trans rfl; have hfz95_0 := blk_frozen BK456.out 0; have hfz95_1 := blk_frozen BK456.out 1) | ((with_reducible refine gate_callee (f := 38) rfl ?_); refine goesL_ (some 22) rfl rfl Try.func38 (by kernel_rfl) rfl #[.agg #[.int .i64 a0_0, .slice A0_1 l0_1.length c0_1]] rfl (by (try simp only [List.map_toArray, List.map_cons, List.map_nil]); first | done | rfl | (simp only [List.length_drop, List.length_take]; rfl)) ?_; (with_reducible refine (spec_l06Is.calls k a0_0 _ _ l0_1 true _ ?side1 ?side2 A3.out).mono ?_); (case side1 => repeat (first | exact (Kd.C_below HR0_1.out HB.out) | (with_reducible refine Kd.C_alloc ?_ _) | (with_reducible refine Kd.C_drewN ?_ _) | (with_reducible refine Kd.C_drew ?_))); (case side2 => exact HC0_1.out); rintro e w96 ⟨rfl, hb⟩; refine ⟨_, rfl, ?_⟩; have n0_ := Aside0.mk (blk_below (g := gb456) (o := .cells #[.int .i64 a0_0, .slice A0_1 l0_1.length c0_1] 32 (0, 0)) (by (with_reducible repeat (first | refine blk_drewN ?_ _ | refine blk_drew ?_ | refine blk_alloc ?_ _)); exact BK456.out) hb); have n1_ := Aside0.mk (below_step (by repeat (first | (with_reducible first | exact HB.out | apply below_alloc | apply pw_below_drewN | apply below_drew1 | refine below_set ?_ GE456.out) | exact HB.out)) hb); clear BK456; clear HB; have BK456 := n0_; have HB := n1_; clear n0_ n1_; (try clear hb); (try clear hb2); (try clear hk); (try clear hi)) | ((with_reducible refine gate_callee (f := 33) rfl ?_); refine goesL_ (some 26) rfl rfl Try.func33 (by kernel_rfl) rfl #[.int .i64 a1, .int .i64 1, .int .i64 2] rfl (by (try simp only [List.map_toArray, List.map_cons, List.map_nil]); first | done | rfl | (simp only [List.length_drop, List.length_take]; rfl)) ?_; (with_reducible refine (spec_l01In.calls a1 1 2 false _ A5.out).mono ?_); rintro e w' ⟨rfl, ⟨nd, rfl⟩⟩; refine ⟨_, rfl, ?_⟩))
      go_ret2
      exact ⟨by first | rfl | (simp [errW_none, errW_some] <;> rfl) | (simp [*, errW_none, errW_some] <;> rfl), by repeat (first | (with_reducible first | exact HB.out | apply below_alloc | apply pw_below_drewN | apply below_drew1 | refine below_set ?_ GE456.out) | exact HB.out)⟩
  · replace c4 := Bool.eq_false_iff.mpr c4
    subst c4
    have H1 : (some (0, 1)) = some (r1, r2) := by rw [if_neg (show ¬ (false = true) by decide)] at H; exact H
    clear H
    have H := H1
    clear H1
    simp only [Option.some.injEq, Prod.mk.injEq] at H
    obtain ⟨rfl, rfl⟩ := H
    go_enter Try.func31, Try.ntmps31
    go_wp2_with (first | ((with_reducible refine gate_dst (N := 2) rfl ?_); refine box_event ?hg (N := 2) ?hd (cs := #[.int .i64 a0_0, .slice A0_1 l0_1.length c0_1]) (t := 32) ?hr ?_; (case hd => rfl); (case hg => rfl); (case hr => first | (go_simp; done) | (go_simp; rfl)); intro gb456 hg w97 hbox hb; have n0_ := Aside0.mk (below_step (by repeat (first | (with_reducible first | exact HB.out | apply below_alloc | apply pw_below_drewN | apply below_drew1) | exact HB.out)) hb); have n1_ := Aside0.mk (hbox); have n2_ := Aside0.mk ((by rw [hg]; exact (below_size (by repeat (first | (with_reducible first | exact HB.out | apply below_alloc | apply pw_below_drewN | apply below_drew1) | exact HB.out))) : w.heap.size ≤ gb456)); have n3_ := Aside0.mk ((by rw [hg]; exact (below_size (by repeat (first | (with_reducible first | exact HB.out | apply below_alloc | apply pw_below_drewN | apply below_drew1) | exact HB.out))) : w.heap.size ≤ gb456)); clear HB; have HB := n0_; have BK456 := n1_; have GW456 := n2_; have GE456 := n3_; clear n0_ n1_ n2_ n3_; clear hb hbox hg; have hcz98_0 : w97.cell? ⟨gb456, 0, none⟩ = some (.int .i64 a0_0) := (blk_cell BK456.out 0).trans rfl; have hcz98_1 : w97.cell? ⟨gb456, 1, none⟩ = some (.slice A0_1 l0_1.length c0_1) := (blk_cell BK456.out 1).trans rfl; have hfz98_0 := blk_frozen BK456.out 0; have hfz98_1 := blk_frozen BK456.out 1) | ((with_reducible refine gate_callee (f := 38) rfl ?_); refine goesL_ (some 22) rfl rfl Try.func38 (by kernel_rfl) rfl #[.agg #[.int .i64 a0_0, .slice A0_1 l0_1.length c0_1]] rfl (by (try simp only [List.map_toArray, List.map_cons, List.map_nil]); first | done | rfl | (simp only [List.length_drop, List.length_take]; rfl)) ?_; (with_reducible refine (spec_l06Is.calls k a0_0 _ _ l0_1 false _ ?side1 ?side2 A3.out).mono ?_); (case side1 => repeat (first | exact (Kd.C_below HR0_1.out HB.out) | (with_reducible refine Kd.C_alloc ?_ _) | (with_reducible refine Kd.C_drewN ?_ _) | (with_reducible refine Kd.C_drew ?_))); (case side2 => exact HC0_1.out); rintro e w99 ⟨rfl, hb⟩; refine ⟨_, rfl, ?_⟩; have n0_ := Aside0.mk (blk_below (g := gb456) (o := .cells #[.int .i64 a0_0, .slice A0_1 l0_1.length c0_1] 32 (0, 0)) (by (with_reducible repeat (first | refine blk_drewN ?_ _ | refine blk_drew ?_ | refine blk_alloc ?_ _)); exact BK456.out) hb); have n1_ := Aside0.mk (below_step (by repeat (first | (with_reducible first | exact HB.out | apply below_alloc | apply pw_below_drewN | apply below_drew1 | refine below_set ?_ GE456.out) | exact HB.out)) hb); clear BK456; clear HB; have BK456 := n0_; have HB := n1_; clear n0_ n1_; (try clear hb); (try clear hb2); (try clear hk); (try clear hi)))
    go_ret2
    exact ⟨by first | rfl | (simp [errW_none, errW_some] <;> rfl) | (simp [*, errW_none, errW_some] <;> rfl), by repeat (first | (with_reducible first | exact HB.out | apply below_alloc | apply pw_below_drewN | apply below_drew1 | refine below_set ?_ GE456.out) | exact HB.out)⟩

end Go.Proofs.Ytnecgdlhkbbpgaa.Q
