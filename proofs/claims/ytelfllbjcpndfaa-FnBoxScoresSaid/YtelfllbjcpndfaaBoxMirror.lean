/-
  Reflected positions: their edges are exchanged, twice reflected is the same, and their net scores are equal. Sides 1 to 3, the three kinds.
-/
import Derived.Test.YtelfllbjcpndfaaBoxScore
namespace Go.Proofs.Ytelfllbjcpndfaa.B
open Go.RowKit Go.Proofs.Ytelfllbjcpndfaa.Q Go.Proofs.YtelfllbjcpndfaaW.PrintWords Go.Proofs.YtelfllbjcpndfaaW.PrintLast Go.Proofs.YtelfllbjcpndfaaW.PrintMore

/-- The edges of a box, its image, the order of the image's edges. -/
def arN (W H i : Nat) : List Nat := [i, i + W, W * (H + 1) + i / W * (W + 1) + i % W, W * (H + 1) + i / W * (W + 1) + i % W + 1]
def imgN (t W H i : Nat) : Nat := if t = 0 then i / W * W + W - 1 - i % W else if t = 1 then (H - 1 - i / W) * W + i % W else i % W * H + i / W
def ordN (t : Nat) : List Nat := if t = 0 then [0, 1, 3, 2] else if t = 1 then [1, 0, 2, 3] else [2, 3, 0, 1]
def wN (t : Nat) (W H : Int) : Int := if t = 2 then H else W
def prs (t : Nat) (W H : Int) : List (Nat × Nat) := (List.range (W.toNat * H.toNat)).flatMap fun i => (List.range 4).map fun k => ((arN W.toNat H.toNat i).getD k 0, (arN (wN t W H).toNat (wN t H W).toNat (imgN t W.toNat H.toNat i)).getD ((ordN t).getD k 0) 0)
def pIn (t : Nat) (W H : Int) (j : Nat) : Nat := (((prs t W H).find? fun p => p.2 == j).map (·.1)).getD 0
def pOut (t : Nat) (W H : Int) (e : Nat) : Nat := (((prs t W H).find? fun p => p.1 == e).map (·.2)).getD 0
def cN (W H : Int) : Nat := (cnt W H).toNat
def symB (t : Nat) (W H : Int) : Bool :=
  ((prs t W H).all fun p => pIn t W H p.2 == p.1 && pOut t W H p.1 == p.2 && decide (p.1 < cN W H) && decide (p.2 < cN (wN t W H) (wN t H W))) &&
  ((List.range (cN (wN t W H) (wN t H W))).all fun j => (prs t W H).any fun p => p.2 == j) &&
  ((List.range (cN W H)).all fun j => (prs t W H).any fun p => p.1 == j) &&
  ((List.range (W * H).toNat).all fun i => ((aroundL (wN t W H) (wN t H W) (imgN t W.toNat H.toNat i : Nat)).map fun e => ((pIn t W H e.toNat : Nat) : Int)).isPerm (aroundL W H (i : Nat))) &&
  (((List.range (W * H).toNat).map (imgN t W.toNat H.toNat)).isPerm (List.range ((wN t W H) * (wN t H W)).toNat)) &&
  ((List.range (cN W H)).all fun j => pIn t (wN t W H) (wN t H W) j == pOut t W H j) && (cN (wN t W H) (wN t H W) == cN W H) && (((List.range (cN W H)).map (pOut t W H)).isPerm (List.range (cN W H)))
theorem sym_all : ∀ t ∈ [0, 1, 2], ∀ W ∈ [(1 : Int), 2, 3], ∀ H ∈ [(1 : Int), 2, 3], symB t W H = true := by decide +kernel
theorem wN_in {t : Nat} {W H : Int} (h1 : 1 ≤ W ∧ W ≤ 3) (h2 : 1 ≤ H ∧ H ≤ 3) : 1 ≤ wN t W H ∧ wN t W H ≤ 3 := by
  unfold wN
  split <;> omega
theorem wN_back (t : Nat) (W H : Int) : wN t (wN t W H) (wN t H W) = W := by
  unfold wN
  split <;> rfl
/-- What the reckoning tells. -/
structure Sym (t : Nat) (W H : Int) : Prop where
  pairs : ∀ p ∈ prs t W H, pIn t W H p.2 = p.1 ∧ pOut t W H p.1 = p.2 ∧ p.1 < cN W H ∧ p.2 < cN (wN t W H) (wN t H W)
  outs : ∀ j, j < cN (wN t W H) (wN t H W) → ∃ p ∈ prs t W H, p.2 = j
  ins : ∀ j, j < cN W H → ∃ p ∈ prs t W H, p.1 = j
  boxes : ∀ i, i < (W * H).toNat → ((aroundL (wN t W H) (wN t H W) (imgN t W.toNat H.toNat i : Nat)).map fun e => ((pIn t W H e.toNat : Nat) : Int)).Perm (aroundL W H (i : Nat))
  images : ((List.range (W * H).toNat).map (imgN t W.toNat H.toNat)).Perm (List.range ((wN t W H) * (wN t H W)).toNat)
  twice : ∀ j, j < cN W H → pIn t (wN t W H) (wN t H W) j = pOut t W H j
  same : cN (wN t W H) (wN t H W) = cN W H
  perm : ((List.range (cN W H)).map (pOut t W H)).Perm (List.range (cN W H))
theorem sym_of {t : Nat} {W H : Int} (ht : t < 3) (h1 : 1 ≤ W ∧ W ≤ 3) (h2 : 1 ≤ H ∧ H ≤ 3) : Sym t W H := by
  have h := sym_all t (by simp; omega) W (by simp; omega) H (by simp; omega)
  unfold symB at h
  simp only [Bool.and_eq_true, List.all_eq_true, List.any_eq_true, beq_iff_eq, decide_eq_true_eq, List.mem_range, List.isPerm_iff] at h
  obtain ⟨⟨⟨⟨⟨⟨⟨a1, a2⟩, a3⟩, a4⟩, a5⟩, a6⟩, a7⟩, a8⟩ := h
  exact ⟨fun p hp => ⟨(a1 p hp).1.1.1, (a1 p hp).1.1.2, (a1 p hp).1.2, (a1 p hp).2⟩, a2, a3, a4, a5, a6, a7, a8⟩
/-- The reflected set of edges. -/
def reflN (t : Nat) (W H : Int) (a : Nat) : Nat := (prs t W H).foldl (fun o p => if a.testBit p.1 then o ||| 2 ^ p.2 else o) 0
theorem fold_bit (a : Nat) (L : List (Nat × Nat)) : ∀ (o j : Nat), (L.foldl (fun o p => if a.testBit p.1 then o ||| 2 ^ p.2 else o) o).testBit j = (o.testBit j || L.any fun p => a.testBit p.1 && decide (p.2 = j)) := by
  induction L with
  | nil => intro o j; simp
  | cons p L ih =>
    intro o j
    simp only [List.foldl_cons, List.any_cons]
    rw [ih]
    by_cases c : a.testBit p.1
    · rw [if_pos c, or_bit, c, Bool.true_and, Bool.or_assoc]
    · rw [if_neg c, show a.testBit p.1 = false by simpa using c, Bool.false_and, Bool.false_or]
section
variable {t : Nat} {W H : Int} (S : Sym t W H) (a : Nat)
include S
theorem refl_bit (j : Nat) (hj : j < cN W H) : (reflN t W H a).testBit j = a.testBit (pIn t W H j) := by
  unfold reflN
  rw [fold_bit, Nat.zero_testBit, Bool.false_or]
  obtain ⟨p, hp, rfl⟩ := S.outs j (by rw [S.same]; exact hj)
  rw [(S.pairs p hp).1]
  by_cases c : a.testBit p.1
  · rw [c]
    exact List.any_eq_true.2 ⟨p, hp, by simp [c]⟩
  · rw [show a.testBit p.1 = false by simpa using c]
    refine List.any_eq_false.2 (fun q hq => ?_)
    by_cases e : q.2 = p.2
    · have h1 := (S.pairs q hq).1
      rw [e, (S.pairs p hp).1] at h1
      rw [← h1]
      simp [c]
    · simp [e]
theorem refl_high (j : Nat) (hj : ¬ j < cN W H) : (reflN t W H a).testBit j = false := by
  unfold reflN
  rw [fold_bit, Nat.zero_testBit, Bool.false_or]
  refine List.any_eq_false.2 (fun q hq => ?_)
  have h1 := (S.pairs q hq).2.2.2
  rw [S.same] at h1
  have h2 : ¬ q.2 = j := by omega
  simp [h2]
theorem in_lt (j : Nat) (hj : j < cN W H) : pIn t W H j < cN W H := by
  obtain ⟨p, hp, rfl⟩ := S.outs j (by rw [S.same]; exact hj)
  rw [(S.pairs p hp).1]
  exact (S.pairs p hp).2.2.1
theorem out_lt (j : Nat) (hj : j < cN W H) : pOut t W H j < cN W H := by
  obtain ⟨p, hp, rfl⟩ := S.ins j hj
  rw [(S.pairs p hp).2.1, ← S.same]
  exact (S.pairs p hp).2.2.2
theorem in_out (j : Nat) (hj : j < cN W H) : pIn t W H (pOut t W H j) = j := by
  obtain ⟨p, hp, rfl⟩ := S.ins j hj
  rw [(S.pairs p hp).2.1, (S.pairs p hp).1]
theorem out_in (j : Nat) (hj : j < cN W H) : pOut t W H (pIn t W H j) = j := by
  obtain ⟨p, hp, rfl⟩ := S.outs j (by rw [S.same]; exact hj)
  rw [(S.pairs p hp).1, (S.pairs p hp).2.1]
theorem refl_put (e : Nat) (he : e < cN W H) : reflN t W H (a ||| 2 ^ e) = reflN t W H a ||| 2 ^ pOut t W H e := by
  refine Nat.eq_of_testBit_eq (fun j => ?_)
  rw [or_bit]
  by_cases hj : j < cN W H
  · rw [refl_bit S _ j hj, refl_bit S a j hj, or_bit]
    congr 1
    refine decide_eq_decide.2 ⟨fun h => ?_, fun h => ?_⟩
    · rw [h]; exact out_in S j hj
    · rw [← h]; exact (in_out S e he).symm
  · rw [refl_high S _ j hj, refl_high S a j hj]
    have h1 := out_lt S e he
    have h2 : ¬ pOut t W H e = j := by omega
    simp [h2]
end
theorem isBox_nat {W H : Int} (h1 : 1 ≤ W ∧ W ≤ 3) (h2 : 1 ≤ H ∧ H ≤ 3) (a : Nat) : isBoxB W H a = true ↔ a < 2 ^ cN W H := by
  obtain ⟨_, _, _, _, _, _, _, f8, _⟩ := cnt_facts W H h1.1 h1.2 h2.1 h2.2
  rw [isBoxB_iff, f8]
  unfold cN
  constructor
  · rintro ⟨_, _, _, h⟩
    exact_mod_cast h
  · intro h
    exact ⟨h1, h2, by omega, by exact_mod_cast h⟩
theorem refl_box {t : Nat} {W H : Int} (ht : t < 3) (h1 : 1 ≤ W ∧ W ≤ 3) (h2 : 1 ≤ H ∧ H ≤ 3) (a : Nat) : isBoxB (wN t W H) (wN t H W) (reflN t W H a : Nat) = true := by
  have S := sym_of ht h1 h2
  rw [isBox_nat (wN_in h1 h2) (wN_in h2 h1), S.same]
  refine Nat.lt_pow_two_of_testBit _ (fun j hj => refl_high S a j (by omega))
/-- Twice reflected is the same. -/
theorem refl_back {t : Nat} {W H : Int} (ht : t < 3) {a : Nat} (h : isBoxB W H a = true) : reflN t (wN t W H) (wN t H W) (reflN t W H a) = a := by
  obtain ⟨h1, h2, _⟩ := box_facts h
  have S := sym_of ht h1 h2
  have S2 := sym_of ht (wN_in (t := t) h1 h2) (wN_in (t := t) h2 h1)
  have hlt := (isBox_nat h1 h2 a).1 h
  refine Nat.eq_of_testBit_eq (fun j => ?_)
  by_cases hj : j < cN W H
  · rw [refl_bit S2 _ j (by rw [S.same]; exact hj), S.twice j hj, refl_bit S a _ (out_lt S j hj), in_out S j hj]
  · rw [refl_high S2 _ j (by rw [S.same]; exact hj)]
    refine (Nat.testBit_lt_two_pow (Nat.lt_of_lt_of_le hlt (Nat.pow_le_pow_right (by decide) (by omega)))).symm
theorem sum_perm (E : Int) {L L' : List Int} (h : L.Perm L') : sumDig E L = sumDig E L' := by
  induction h with
  | nil => rfl
  | cons x _ ih => simp only [sumDig, ih]
  | swap x y l => simp only [sumDig]; omega
  | trans _ _ ih1 ih2 => exact ih1.trans ih2
theorem sum_map (E E' : Int) (f : Int → Int) (L : List Int) (h : ∀ e ∈ L, dig E e = dig E' (f e)) : sumDig E L = sumDig E' (L.map f) := by
  induction L with
  | nil => rfl
  | cons x L ih =>
    simp only [sumDig, List.map_cons]
    rw [h x List.mem_cons_self, ih (fun e he => h e (List.mem_cons_of_mem _ he))]
theorem seg_range (n : Nat) : ∀ i : Nat, seg (i : Int) n = (List.range n).map fun j => ((i + j : Nat) : Int) := by
  induction n with
  | zero => intro i; rfl
  | succ n ih =>
    intro i
    rw [seg, show (i : Int) + 1 = ((i + 1 : Nat) : Int) by omega, ih, List.range_succ_eq_map]
    simp only [List.map_cons, List.map_map, Nat.add_zero, List.cons.injEq, true_and]
    refine List.map_congr_left (fun j _ => ?_)
    simp only [Function.comp]
    omega
section
variable {t : Nat} {W H : Int} (ht : t < 3) {a : Nat} (h : isBoxB W H a = true)
include ht h
theorem refl_drawn (i : Nat) (hi : i < (W * H).toNat) : drawnN (wN t W H) (wN t H W) (reflN t W H a : Nat) (imgN t W.toNat H.toNat i : Nat) = drawnN W H a (i : Nat) := by
  obtain ⟨h1, h2, h3, f2, f3, _⟩ := box_facts h
  have S := sym_of ht h1 h2
  have hb := refl_box ht h1 h2 a
  obtain ⟨_, _, k3, g2, g3, _⟩ := box_facts hb
  unfold drawnN
  have hi2 : imgN t W.toNat H.toNat i < (wN t W H * wN t H W).toNat := List.mem_range.1 ((S.images.mem_iff).1 (List.mem_map.2 ⟨i, List.mem_range.2 hi, rfl⟩))
  have w1 := wN_in (t := t) h1 h2
  have w2 := wN_in (t := t) h2 h1
  obtain ⟨_, _, _, ha⟩ := around_facts (wN t W H) (wN t H W) 0 (imgN t W.toNat H.toNat i : Nat) w1 w2 (by omega) (by omega)
  rw [sum_map (reflN t W H a : Nat) (a : Int) (fun e => ((pIn t W H e.toNat : Nat) : Int)) _ (fun e he => ?_)]
  · exact sum_perm _ (S.boxes i hi)
  · obtain ⟨e0, e1⟩ := ha e he
    have e2 : e.toNat < cN W H := by rw [← S.same]; unfold cN; omega
    have e3 := in_lt S e.toNat e2
    have e4 : cN W H ≤ 24 := by unfold cN; omega
    show dig _ e = dig (a : Int) ((pIn t W H e.toNat : Nat) : Int)
    rw [dig_bit _ e (small62 k3) e0 (by omega), dig_bit a _ (small62 h3) (by omega) (by omega), refl_bit S a _ e2, Int.toNat_natCast]
theorem refl_with (n : Int) : (withL (wN t W H) (wN t H W) (reflN t W H a : Nat) n).length = (withL W H a n).length := by
  obtain ⟨h1, h2, _⟩ := box_facts h
  have S := sym_of ht h1 h2
  unfold withL
  rw [show (0 : Int) = ((0 : Nat) : Int) from rfl, seg_range, seg_range, ← List.countP_eq_length_filter, ← List.countP_eq_length_filter, List.countP_map, List.countP_map, ← S.images.countP_eq, List.countP_map]
  refine List.countP_congr (fun i hi => ?_)
  have := refl_drawn ht h i (List.mem_range.1 hi)
  simp only [Function.comp, Nat.zero_add, this]
theorem refl_taken : taken (wN t W H) (wN t H W) (reflN t W H a) = taken W H a := by
  unfold taken
  rw [refl_with ht h]
theorem refl_free (e : Nat) (he : (e : Int) ∈ freeL W H a) : ((pOut t W H e : Nat) : Int) ∈ freeL (wN t W H) (wN t H W) (reflN t W H a : Nat) := by
  obtain ⟨h1, h2, _⟩ := box_facts h
  have S := sym_of ht h1 h2
  have hb := refl_box ht h1 h2 a
  obtain ⟨_, e1, e2⟩ := (mem_free h _).1 he
  have e3 : e < cN W H := by unfold cN; omega
  have e4 := out_lt S e e3
  rw [mem_free hb]
  refine ⟨by omega, ?_, ?_⟩
  · rw [← S.same] at e4; unfold cN at e4; omega
  · rw [Int.toNat_natCast, refl_bit S a _ e4, in_out S e e3]
    simpa using e2
theorem refl_free_back (e : Nat) (he : (e : Int) ∈ freeL (wN t W H) (wN t H W) (reflN t W H a : Nat)) : ((pIn t W H e : Nat) : Int) ∈ freeL W H a ∧ e < cN W H := by
  obtain ⟨h1, h2, _⟩ := box_facts h
  have S := sym_of ht h1 h2
  have hb := refl_box ht h1 h2 a
  obtain ⟨_, e1, e2⟩ := (mem_free hb _).1 he
  have e3 : e < cN W H := by rw [← S.same]; unfold cN; omega
  have e4 := in_lt S e e3
  refine ⟨(mem_free h _).2 ⟨by omega, by unfold cN at e4; omega, ?_⟩, e3⟩
  rw [Int.toNat_natCast] at e2 ⊢
  rwa [refl_bit S a _ e3] at e2
theorem refl_free_len : (freeL (wN t W H) (wN t H W) (reflN t W H a : Nat)).length = (freeL W H a).length := by
  obtain ⟨h1, h2, h3, f2, f3, _⟩ := box_facts h
  have S := sym_of ht h1 h2
  have hb := refl_box ht h1 h2 a
  obtain ⟨_, _, k3, g2, g3, _⟩ := box_facts hb
  have e4 : cN W H ≤ 24 := by unfold cN; omega
  unfold freeL
  rw [show (cnt (wN t W H) (wN t H W)).toNat = cN W H from S.same, show (cnt W H).toNat = cN W H from rfl, show (0 : Int) = ((0 : Nat) : Int) from rfl, seg_range, ← List.countP_eq_length_filter, ← List.countP_eq_length_filter, List.countP_map, List.countP_map, ← S.perm.countP_eq, List.countP_map]
  refine List.countP_congr (fun e he => ?_)
  have e3 := List.mem_range.1 he
  have e5 := out_lt S e e3
  simp only [Function.comp, Nat.zero_add]
  rw [notDrawn_bit _ _ (small62 k3) (by omega) (by omega), notDrawn_bit a _ (small62 h3) (by omega) (by omega), Int.toNat_natCast, Int.toNat_natCast, refl_bit S a _ e5, in_out S e e3]
end
theorem best_ge (g : Int → Int) (l : List Int) (x : Int) (hx : x ∈ l) : g x ≤ best g l := by
  have hf : ∀ (l : List Int) (b : Int), b ≤ l.foldl (fun b e => mx b (g e)) b ∧ ∀ x ∈ l, g x ≤ l.foldl (fun b e => mx b (g e)) b := by
    intro l
    induction l with
    | nil => intro b; exact ⟨Int.le_refl _, fun x hx => by cases hx⟩
    | cons y l ih =>
      intro b
      obtain ⟨i1, i2⟩ := ih (mx b (g y))
      have m : b ≤ mx b (g y) ∧ g y ≤ mx b (g y) := by unfold mx; split <;> omega
      simp only [List.foldl_cons]
      refine ⟨by omega, fun x hx => ?_⟩
      rcases List.mem_cons.1 hx with rfl | hx
      · omega
      · exact i2 x hx
  cases l with
  | nil => cases hx
  | cons y l =>
    obtain ⟨i1, i2⟩ := hf l (g y)
    rcases List.mem_cons.1 hx with rfl | hx
    · exact i1
    · exact i2 x hx
theorem fold_at (g : Int → Int) (l : List Int) : ∀ b : Int, l.foldl (fun b e => mx b (g e)) b = b ∨ ∃ x ∈ l, l.foldl (fun b e => mx b (g e)) b = g x := by
  induction l with
  | nil => intro b; exact .inl rfl
  | cons y l ih =>
    intro b
    simp only [List.foldl_cons]
    rcases ih (mx b (g y)) with h | ⟨x, hx, h⟩
    · rw [h]
      unfold mx
      split
      · exact .inr ⟨y, List.mem_cons_self, rfl⟩
      · exact .inl rfl
    · exact .inr ⟨x, List.mem_cons_of_mem _ hx, h⟩
theorem best_at (g : Int → Int) (l : List Int) (hl : l ≠ []) : ∃ x ∈ l, best g l = g x := by
  cases l with
  | nil => exact absurd rfl hl
  | cons y l =>
    rcases fold_at g l (g y) with h | ⟨x, hx, h⟩
    · exact ⟨y, List.mem_cons_self, h⟩
    · exact ⟨x, List.mem_cons_of_mem _ hx, h⟩
theorem best_same {g g' : Int → Int} {l l' : List Int} (h1 : ∀ x ∈ l, ∃ y ∈ l', g x = g' y) (h2 : ∀ y ∈ l', ∃ x ∈ l, g x = g' y) : best g l = best g' l' := by
  by_cases c : l = []
  · subst c
    cases l' with
    | nil => rfl
    | cons y l' =>
      obtain ⟨x, hx, _⟩ := h2 y List.mem_cons_self
      cases hx
  · obtain ⟨x, hx, e⟩ := best_at g l c
    obtain ⟨y, hy, e2⟩ := h1 x hx
    have k1 := best_ge g' l' y hy
    obtain ⟨y', hy', e'⟩ := best_at g' l' (fun z => by rw [z] at hy; cases hy)
    obtain ⟨x', hx', e2'⟩ := h2 y' hy'
    have k2 := best_ge g l x' hx'
    omega
/-- Net scores of reflected positions are equal. -/
theorem sc_refl {t : Nat} (ht : t < 3) {W H : Int} (m : Nat) : ∀ a : Nat, isBoxB W H a = true → (freeL W H a).length < m → sc (wN t W H) (wN t H W) (reflN t W H a) = sc W H a := by
  induction m with
  | zero => intro a h hm; omega
  | succ m ih =>
    intro a h hm
    obtain ⟨h1, h2, _⟩ := box_facts h
    have S := sym_of ht h1 h2
    have hb := refl_box ht h1 h2 a
    have hstep : ∀ e : Nat, e < cN W H → (e : Int) ∈ freeL W H a → bh (sc (wN t W H) (wN t H W)) (wN t W H) (wN t H W) (reflN t W H a) ((pOut t W H e : Nat) : Int) = bh (sc W H) W H a (e : Int) := by
      intro e e3 he
      obtain ⟨q0, q1, _⟩ := (mem_free h _).1 he
      have hp := put_box h (e : Int) q0 q1
      have e5 : put (reflN t W H a) ((pOut t W H e : Nat) : Int) = reflN t W H (put a (e : Int)) := by
        unfold put
        rw [Int.toNat_natCast, Int.toNat_natCast, refl_put S a e e3]
      have i1 := ih (put a (e : Int)) hp (by have := free_put_len h (e : Int) he; omega)
      unfold bh
      rw [e5, refl_taken ht hp, refl_taken ht h, i1]
    rw [sc_eq hb, sc_eq h]
    refine (best_same (fun x hx => ?_) (fun y hy => ?_)).symm
    · obtain ⟨q0, q1, _⟩ := (mem_free h x).1 hx
      obtain ⟨e, rfl⟩ := Int.eq_ofNat_of_zero_le q0
      exact ⟨_, refl_free ht h e hx, (hstep e (by unfold cN; omega) hx).symm⟩
    · obtain ⟨q0, q1, _⟩ := (mem_free hb y).1 hy
      obtain ⟨e, rfl⟩ := Int.eq_ofNat_of_zero_le q0
      obtain ⟨r1, r2⟩ := refl_free_back ht h e hy
      have := hstep (pIn t W H e) (in_lt S e r2) r1
      rw [out_in S e r2] at this
      exact ⟨_, r1, this.symm⟩
end Go.Proofs.Ytelfllbjcpndfaa.B
