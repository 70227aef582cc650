/-
  The program's reflected positions are the plain ones. Sides 1 to 3, the three kinds.
-/
import Derived.Test.YtelfllbjcpndfaaBoxMirror
import Derived.Test.YtelfllbjcpndfaaQ3
namespace Go.Proofs.Ytelfllbjcpndfaa.B
open Go.RowKit Go.Proofs.Ytelfllbjcpndfaa.Q Go.Proofs.YtelfllbjcpndfaaW.PrintWords Go.Proofs.YtelfllbjcpndfaaW.PrintLast Go.Proofs.YtelfllbjcpndfaaW.PrintMore

def ordZ (t : Nat) : List Int := if t = 0 then [0, 1, 3, 2] else if t = 1 then [1, 0, 2, 3] else [2, 3, 0, 1]
/-- The edges of box i and what they become. -/
def rowN (t : Nat) (W H : Int) (i : Nat) : List (Nat × Nat) := (List.range 4).map fun k => ((arN W.toNat H.toNat i).getD k 0, (arN (wN t W H).toNat (wN t H W).toNat (imgN t W.toNat H.toNat i)).getD ((ordN t).getD k 0) 0)
def pr (t : Nat) (W H : Int) (i j : Nat) : Nat × Nat := (rowN t W H i).getD j (0, 0)
/-- The image's number, as the program reckons it. -/
def imgZ (t : Nat) (W H i : Int) : Int :=
  if t = 0 then wrap64 ((wrap64 ((wrap64 ((wrap64 ((wrap64 (Int.tdiv i W)) * W)) + W)) - 1)) - (Int.tmod i W)) else if t = 1 then wrap64 ((wrap64 ((wrap64 ((wrap64 (H - 1)) - (wrap64 (Int.tdiv i W)))) * W)) + (Int.tmod i W)) else wrap64 ((wrap64 ((Int.tmod i W) * H)) + (wrap64 (Int.tdiv i W)))
def rowB (t : Nat) (W H : Int) (i : Nat) : Bool :=
  imgZ t W H i == ((imgN t W.toNat H.toNat i : Nat) : Int) && decide ((imgN t W.toNat H.toNat i : Nat) < wN t W H * wN t H W) &&
  (List.range 4).all fun j => rd (aroundL W H i) (j : Int) == (((pr t W H i j).1 : Nat) : Int) && decide (0 ≤ rd (ordZ t) (j : Int) ∧ rd (ordZ t) (j : Int) < 4) &&
    rd (aroundL (wN t W H) (wN t H W) (imgN t W.toNat H.toNat i : Nat)) (rd (ordZ t) (j : Int)) == (((pr t W H i j).2 : Nat) : Int) && decide ((pr t W H i j).1 ≤ 24 ∧ (pr t W H i j).2 ≤ 24)
def rowAll : Bool := [(0 : Nat), 1, 2].all fun t => [(1 : Int), 2, 3].all fun W => [(1 : Int), 2, 3].all fun H => (List.range (W.toNat * H.toNat)).all fun i => rowB t W H i
theorem row_all : rowAll = true := by decide +kernel
theorem wrap_n (n : Nat) (h : n ≤ 1000) : wrap64 ((n : Int) + 1) = ((n + 1 : Nat) : Int) := wrap_in (by omega) (by omega)
def put1 (a : Nat) (E : Nat) (p : Nat × Nat) : Nat := if a.testBit p.1 then E ||| 2 ^ p.2 else E
theorem put1_lt {a E : Nat} {p : Nat × Nat} (h : E < 2 ^ 25) (hp : p.2 ≤ 24) : put1 a E p < 2 ^ 25 := by
  unfold put1
  split
  · exact Nat.or_lt_two_pow h (Nat.pow_lt_pow_right (by decide) (by omega))
  · exact h
def outN (t : Nat) (W H : Int) (a : Nat) : Nat → Nat → Nat → Nat
  | 0, _, E => E
  | d + 1, i, E => outN t W H a d (i + 1) (put1 a (put1 a (put1 a (put1 a E (pr t W H i 0)) (pr t W H i 1)) (pr t W H i 2)) (pr t W H i 3))
theorem out_fold (t : Nat) (W H : Int) (a : Nat) (d : Nat) : ∀ i E, ((List.range' i d).flatMap (rowN t W H)).foldl (fun o p => if a.testBit p.1 then o ||| 2 ^ p.2 else o) E = outN t W H a d i E := by
  induction d with
  | zero => intro i E; rfl
  | succ d ih =>
    intro i E
    rw [List.range'_succ, List.flatMap_cons, List.foldl_append, ih]
    rfl
theorem out_refl (t : Nat) (W H : Int) (a : Nat) : outN t W H a (W.toNat * H.toNat) 0 0 = reflN t W H a := by
  rw [← out_fold, ← List.range_eq_range']
  rfl
section
variable {t : Nat} {W H : Int} (ht : t < 3) (h1 : 1 ≤ W ∧ W ≤ 3) (h2 : 1 ≤ H ∧ H ≤ 3) {a : Nat} (ha : a < 16777216)
include ht h1 h2
theorem row_facts (i : Nat) (hi : (i : Int) < W * H) : imgZ t W H i = ((imgN t W.toNat H.toNat i : Nat) : Int) ∧ ((imgN t W.toNat H.toNat i : Nat) : Int) < wN t W H * wN t H W ∧ ∀ j : Nat, j < 4 → rd (aroundL W H i) (j : Int) = (((pr t W H i j).1 : Nat) : Int) ∧
    (0 ≤ rd (ordZ t) (j : Int) ∧ rd (ordZ t) (j : Int) < 4) ∧ rd (aroundL (wN t W H) (wN t H W) (imgN t W.toNat H.toNat i : Nat)) (rd (ordZ t) (j : Int)) = (((pr t W H i j).2 : Nat) : Int) ∧ (pr t W H i j).1 ≤ 24 ∧ (pr t W H i j).2 ≤ 24 := by
  have h9 := (cnt_facts W H h1.1 h1.2 h2.1 h2.2).2.2.2.2.2.2.2.2.2.2
  have h0 := row_all
  unfold rowAll at h0
  have h := List.all_eq_true.1 (List.all_eq_true.1 (List.all_eq_true.1 (List.all_eq_true.1 h0 t (by simp; omega)) W (by simp; omega)) H (by simp; omega)) i (List.mem_range.2 (by
    have e : ((W.toNat * H.toNat : Nat) : Int) = W * H := by rw [Int.natCast_mul, Int.toNat_of_nonneg (by omega), Int.toNat_of_nonneg (by omega)]
    omega))
  unfold rowB at h
  simp only [Bool.and_eq_true, List.all_eq_true, beq_iff_eq, decide_eq_true_eq, List.mem_range] at h
  exact ⟨h.1.1, h.1.2, fun j hj => ⟨(h.2 j hj).1.1.1, (h.2 j hj).1.1.2, (h.2 j hj).1.2, (h.2 j hj).2⟩⟩
include ha
theorem turn_in (i : Nat) (hi : (i : Int) < W * H) (n : Int) (r : Int × Int × Int) (d : Nat) : ∀ (j E : Nat), j + d = 4 → E < 2 ^ 25 →
    Ev (fun k => impl_Boxes_reflected.l0 k (t : Int) n (wrap64 ((i : Int) + 1)) W H (a : Int) (wN t W H) (wN t H W) (((((List.range' j d).map (pr t W H i)).foldl (put1 a) E : Nat)) : Int)) r →
    Ev (fun k => impl_Boxes_reflected.l1 k (t : Int) (ordZ t) (aroundL (wN t W H) (wN t H W) (imgN t W.toNat H.toNat i : Nat)) n (i : Int) (aroundL W H i) ((aroundL W H i).length : Int) (j : Int) W H (a : Int) (wN t W H) (wN t H W) (E : Int)) r := by
  obtain ⟨f1, f2, f3⟩ := row_facts ht h1 h2 i hi
  obtain ⟨_, _, hl, _⟩ := around_facts W H 0 (i : Int) h1 h2 (by omega) hi
  obtain ⟨_, _, hl2, _⟩ := around_facts (wN t W H) (wN t H W) 0 (imgN t W.toNat H.toNat i : Nat) (wN_in h1 h2) (wN_in h2 h1) (by omega) f2
  have hlo : (ordZ t).length = 4 := by unfold ordZ; split; rfl; split <;> rfl
  have k25 : (2 : Nat) ^ 25 = 33554432 := by decide
  have k62 : (2 : Nat) ^ 62 = 4611686018427387904 := by decide
  induction d with
  | zero =>
    intro j E hj hE h
    refine evSucc (fun k => by rw [impl_Boxes_reflected.l1]) ?_
    exact evF (by omega) h
  | succ d ih =>
    intro j E hj hE h
    obtain ⟨g1, g2, g3, g4, g5⟩ := f3 j (by omega)
    have hhas : impl_Boxes_has.f W H (a : Int) (((pr t W H i j).1 : Nat) : Int) = some (a.testBit (pr t W H i j).1) := by
      unfold impl_Boxes_has.f
      have hb := dig_bit a (((pr t W H i j).1 : Nat) : Int) (small62 ha) (by omega) (by omega)
      unfold dig at hb
      rw [if_pos (by omega), hb, Int.toNat_natCast]
      cases a.testBit (pr t W H i j).1 <;> rfl
    have hput := put1_lt (a := a) (p := pr t W H i j) hE g5
    refine evSucc (fun k => by rw [impl_Boxes_reflected.l1]) ?_
    refine evT (by omega) (evT (by omega) (evT (by omega) ?_))
    rw [g1]
    refine evG hhas ?_
    have hn := ih (j + 1) (put1 a E (pr t W H i j)) (by omega) hput (by rw [List.range'_succ, List.map_cons, List.foldl_cons] at h; exact h)
    rw [wrap_n j (by omega)]
    cases hb : a.testBit (pr t W H i j).1 with
    | true =>
      refine evT rfl (evT (by omega) (evT g2.1 (evT (by omega) (evT (by rw [g3]; omega) ?_))))
      rw [g3, shl_one _ (by omega) (by omega), Int.toNat_natCast, or_nat E _ (by omega) (Nat.pow_lt_pow_right (by decide) (by omega))]
      unfold put1 at hn
      rw [hb, if_pos rfl] at hn
      exact hn
    | false =>
      refine evF (by decide) ?_
      unfold put1 at hn
      rw [hb, if_neg (by decide)] at hn
      exact hn
theorem turn_out (d : Nat) : ∀ (i E : Nat), (i : Int) + d = W * H → E < 2 ^ 25 → Ev (fun k => impl_Boxes_reflected.l0 k (t : Int) (W * H) (i : Int) W H (a : Int) (wN t W H) (wN t H W) (E : Int)) (wN t W H, wN t H W, ((outN t W H a d i E : Nat) : Int)) := by
  induction d with
  | zero =>
    intro i E hi hE
    refine evSucc (fun k => by rw [impl_Boxes_reflected.l0]) ?_
    exact evF (by omega) (evS _)
  | succ d ih =>
    intro i E hi hE
    obtain ⟨f1, f2, f3⟩ := row_facts ht h1 h2 i (by omega)
    obtain ⟨a1, _, _, _⟩ := around_facts W H (a : Int) (i : Int) h1 h2 (by omega) (by omega)
    have h9 := (cnt_facts W H h1.1 h1.2 h2.1 h2.2).2.2.2.2.2.2.2.2.2.2
    have p0 := put1_lt (a := a) (p := pr t W H i 0) hE (f3 0 (by decide)).2.2.2.2
    have p1 := put1_lt (a := a) (p := pr t W H i 1) p0 (f3 1 (by decide)).2.2.2.2
    have p2 := put1_lt (a := a) (p := pr t W H i 2) p1 (f3 2 (by decide)).2.2.2.2
    have p3 := put1_lt (a := a) (p := pr t W H i 3) p2 (f3 3 (by decide)).2.2.2.2
    have hnext := ih (i + 1) _ (by omega) p3
    rw [← wrap_n i (by omega)] at hnext
    have hin := turn_in ht h1 h2 ha i (by omega) (W * H) (wN t W H, wN t H W, ((outN t W H a (d + 1) i E : Nat) : Int)) 4 0 E rfl hE hnext
    have hj : Ev (fun k => impl_Boxes_reflected.j2 k (t : Int) (i : Int) (imgZ t W H i) (ordZ t) (W * H) (i : Int) W H (a : Int) (wN t W H) (wN t H W) (E : Int)) (wN t W H, wN t H W, ((outN t W H a (d + 1) i E : Nat) : Int)) := by
      refine evSucc (fun k => by rw [impl_Boxes_reflected.j2]) ?_
      rw [f1]
      obtain ⟨a2, _, _, _⟩ := around_facts (wN t W H) (wN t H W) (E : Int) (imgN t W.toNat H.toNat i : Nat) (wN_in h1 h2) (wN_in h2 h1) (by omega) f2
      exact evG a2 (evG a1 hin)
    refine evSucc (fun k => by rw [impl_Boxes_reflected.l0]) ?_
    refine evT (by omega) (evF (by omega) ?_)
    have ht3 : t = 0 ∨ t = 1 ∨ t = 2 := by omega
    rcases ht3 with rfl | rfl | rfl
    · exact evT rfl hj
    · exact evF (by decide) (evT rfl hj)
    · exact evF (by decide) (evF (by decide) (evT rfl hj))
/-- The program's reflected position. -/
theorem turn_impl : Ev (fun k => impl_Boxes_reflected.f k W H (a : Int) (t : Int)) (wN t W H, wN t H W, ((reflN t W H a : Nat) : Int)) := by
  have f9 := (cnt_facts W H h1.1 h1.2 h2.1 h2.2).2.2.2.2.2.2.2.2
  have ho := turn_out ht h1 h2 ha (W.toNat * H.toNat) 0 0 (by
    have e : ((W.toNat * H.toNat : Nat) : Int) = W * H := by
      rw [Int.natCast_mul, Int.toNat_of_nonneg (by omega), Int.toNat_of_nonneg (by omega)]
    omega) (by decide)
  rw [out_refl] at ho
  have hj : Ev (fun k => impl_Boxes_reflected.j0 k (t : Int) W H (a : Int) (wN t W H) (wN t H W) 0) (wN t W H, wN t H W, ((reflN t W H a : Nat) : Int)) := by
    refine evSucc (fun k => by rw [impl_Boxes_reflected.j0]) ?_
    refine evG (by unfold impl_Boxes_boxes.f; rw [f9.1]) ?_
    exact ho
  unfold impl_Boxes_reflected.f
  by_cases c : t = 2
  · subst c
    exact evT rfl hj
  · refine evF (by omega) ?_
    unfold wN at hj ⊢
    rw [if_neg c, if_neg c] at hj ⊢
    exact hj
end
/-- The program's answer. -/
theorem reflect_impl {t : Nat} (ht : t < 3) {W H : Int} {a : Nat} (h : isBoxB W H a = true) : Ev (fun k => impl_ReflectBoxes.f k W H (a : Int) (t : Int)) (wN t W H, wN t H W, ((reflN t W H a : Nat) : Int), 0) := by
  obtain ⟨h1, h2, h3, _⟩ := box_facts h
  have hc := boxesCode W H (a : Int) (t : Int) 3
  rw [h, if_pos rfl, show wrap64 (3 - 1) = 2 by decide +kernel, if_pos (by omega)] at hc
  unfold impl_ReflectBoxes.f
  exact evB hc (evT rfl (evB (turn_impl ht h1 h2 h3) (evS _)))
end Go.Proofs.Ytelfllbjcpndfaa.B
