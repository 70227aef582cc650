/-
  Unions of fields: program and reference put the same field together; its lines are the lines of both. Fields of 1 to 8 points, as the facts ask.
-/
import Derived.Test.YtlmohkbimnhecaaGreatDoorQ5
import Derived.Test.YtlmohkbimnhecaaGreatDoorQ1
import Derived.Test.YtlmohkbimnhecaaGreatDoorQ6
import Derived.Test.YtlmohkbimnhecaaGreatDoorBase
import Derived.Test.YtlmohkbimnhecaaGreatDoorTexts
namespace Go.Proofs.YtlmohkbimnhecaaGreatDoor.B
open Go.RowKit Go.Proofs.YtlmohkbimnhecaaGreatDoor.Q Go.Proofs.YtlmohkbimnhecaaGreatDoorW.PrintWords Go.Proofs.YtlmohkbimnhecaaGreatDoorW.PrintLast Go.Proofs.YtlmohkbimnhecaaGreatDoorW.PrintMore

def innU (n gL j : Int) : Nat → Int → Int → Int
  | 0, _, a => a
  | d + 1, i, a => innU n gL j d (i + 1) (if jn gL i j = true then Go.bits .or .i64 a (shl .i64 1 (trI (n + j) + n + i)) else a)
def outU (n gL : Int) : Nat → Int → Int → Int
  | 0, _, a => a
  | d + 1, j, a => outU n gL d (j + 1) (innU n gL j j.toNat 0 a)
section
variable (n m gL gR gB : Int)
theorem in_impl (x148000 x148002 x148003 j : Int) (hn : 0 ≤ n ∧ n ≤ 8) (hj : 0 ≤ j ∧ j < 8) (r : Int → Int × Int × Int × Int × Int)
    (hk : ∀ a, Ev (fun k => impl_UnionOf.l0 k n m (wrap64 (j + 1)) m gL gR gB x148000 a x148002 x148003) (r a)) (d : Nat) :
    ∀ i a : Int, 0 ≤ i → j = i + d → Ev (fun k => impl_UnionOf.l1 k n j m j j i m gL gR gB x148000 a x148002 x148003) (r (innU n gL j d i a)) := by
  induction d with
  | zero =>
    intro i a h0 h1
    refine evSucc (fun k => by rw [impl_UnionOf.l1]) ?_
    exact evF (by omega) (hk a)
  | succ d ih =>
    intro i a h0 h1
    obtain ⟨t0, t1, t2⟩ := trI_range (n + j) (by omega) (by omega)
    refine evSucc (fun k => by rw [impl_UnionOf.l1]) ?_
    rw [joins_impl m gL gR gB i j (by omega) (by omega) (by omega)]
    refine evT (by omega) (evG rfl ?_)
    rw [wrap_in (x := i + 1) (by omega) (by omega)]
    simp only [innU]
    by_cases c : jn gL i j = true
    · rw [if_pos c]
      refine evT c (evG (a := trI (n + j)) (by unfold impl_pairs.f; rw [wrap_in (x := n + j) (by omega) (by omega)]; rfl) ?_)
      rw [wrap_in (x := trI (n + j) + n) (by omega) (by omega), wrap_in (x := trI (n + j) + n + i) (by omega) (by omega)]
      exact evT (by omega) (ih (i + 1) _ (by omega) (by omega))
    · rw [if_neg c]
      exact evF c (ih (i + 1) _ (by omega) (by omega))
theorem out_impl (x148000 x148002 x148003 : Int) (hn : 0 ≤ n ∧ n ≤ 8) (hm : m ≤ 8) (d : Nat) :
    ∀ j a : Int, 0 ≤ j → m = j + d → Ev (fun k => impl_UnionOf.l0 k n m j m gL gR gB x148000 a x148002 x148003) (x148000, outU n gL d j a, x148002, x148003, 0) := by
  induction d with
  | zero =>
    intro j a h0 h1
    refine evSucc (fun k => by rw [impl_UnionOf.l0]) ?_
    exact evF (by omega) (evS _)
  | succ d ih =>
    intro j a h0 h1
    refine evSucc (fun k => by rw [impl_UnionOf.l0]) ?_
    refine evT (by omega) ?_
    simp only [outU]
    refine in_impl n m gL gR gB x148000 x148002 x148003 j hn (by omega) (fun a => (x148000, outU n gL d (j + 1) a, x148002, x148003, 0)) (fun a => ?_) j.toNat 0 a (by omega) (by omega)
    rw [wrap_in (x := j + 1) (by omega) (by omega)]
    exact ih (j + 1) a (by omega) (by omega)
theorem in_spec (fL fR fB x111000 x111002 x111003 j : Int) (hn : 0 ≤ n ∧ n ≤ 8) (hj : 0 ≤ j ∧ j < 8) (r : Int → Int × Int × Int × Int)
    (hk : ∀ a, Ev (fun k => spec_l05Union.l0 k (wrap64 (j + 1)) n fL fR fB m gL gR gB x111000 a x111002 x111003) (r a)) (d : Nat) :
    ∀ i a : Int, 0 ≤ i → j = i + d → Ev (fun k => spec_l05Union.l1 k j i n fL fR fB m gL gR gB x111000 a x111002 x111003) (r (innU n gL j d i a)) := by
  induction d with
  | zero =>
    intro i a h0 h1
    refine evSucc (fun k => by rw [spec_l05Union.l1]) ?_
    exact evF (by omega) (hk a)
  | succ d ih =>
    intro i a h0 h1
    obtain ⟨t0, t1, t2⟩ := trI_range (n + j) (by omega) (by omega)
    refine evSucc (fun k => by rw [spec_l05Union.l1]) ?_
    rw [joins_spec m gL gR gB i j (by omega) (by omega)]
    refine evT (by omega) (evG rfl ?_)
    rw [wrap_in (x := i + 1) (by omega) (by omega), wrap_in (x := j + n) (by omega) (by omega), show j + n = n + j by omega, show wrap64 (Int.tdiv (wrap64 ((n + j) * (wrap64 (n + j - 1)))) 2) = trI (n + j) from rfl]
    rw [wrap_in (x := trI (n + j) + i) (by omega) (by omega), wrap_in (x := trI (n + j) + i + n) (by omega) (by omega), u64_at _ (by omega) (by omega), show trI (n + j) + i + n = trI (n + j) + n + i by omega]
    simp only [innU]
    by_cases c : jn gL i j = true
    · rw [if_pos c]
      exact evT c (evT (by omega) (ih (i + 1) _ (by omega) (by omega)))
    · rw [if_neg c]
      exact evF c (ih (i + 1) _ (by omega) (by omega))
theorem out_spec (fL fR fB x111000 x111002 x111003 : Int) (hn : 0 ≤ n ∧ n ≤ 8) (hm : m ≤ 8) (d : Nat) :
    ∀ j a : Int, 0 ≤ j → m = j + d → Ev (fun k => spec_l05Union.l0 k j n fL fR fB m gL gR gB x111000 a x111002 x111003) (x111000, outU n gL d j a, x111002, x111003) := by
  induction d with
  | zero =>
    intro j a h0 h1
    refine evSucc (fun k => by rw [spec_l05Union.l0]) ?_
    exact evF (by omega) (evS _)
  | succ d ih =>
    intro j a h0 h1
    refine evSucc (fun k => by rw [spec_l05Union.l0]) ?_
    refine evT (by omega) ?_
    simp only [outU]
    refine in_spec n m gL gR gB fL fR fB x111000 x111002 x111003 j hn (by omega) (fun a => (x111000, outU n gL d (j + 1) a, x111002, x111003)) (fun a => ?_) j.toNat 0 a (by omega) (by omega)
    rw [wrap_in (x := j + 1) (by omega) (by omega)]
    exact ih (j + 1) a (by omega) (by omega)
end
theorem union_both (n fL fR fB m gL gR gB : Int) : ∃ r : Int × Int × Int × Int × Int, Ev (fun k => spec_UnionOf.f k n fL fR fB m gL gR gB) r ∧ Ev (fun k => impl_UnionOf.f k n fL fR fB m gL gR gB) r ∧
    (r.2.2.2.2 = 0 → impl_IsField.f n fL fR fB = some true ∧ impl_IsField.f m gL gR gB = some true ∧ n + m ≤ 8 ∧ r = (n + m, outU n gL (m - 1).toNat 1 fL, Go.bits .or .i64 fR (shl .i64 gR n), Go.bits .or .i64 fB (shl .i64 gB n), 0)) := by
  unfold spec_UnionOf.f impl_UnionOf.f
  rw [isField_same, isField_same]
  obtain ⟨b, hb⟩ := field_total n fL fR fB
  obtain ⟨c, hc⟩ := field_total m gL gR gB
  rw [hb, hc]
  cases b with
  | false =>
    refine ⟨(0, 0, 0, 0, 1), evG rfl (evF (by simp) ?_), evG rfl (evF (by simp) (evB (first_two _ _ _ _) ?_)), fun h => absurd h (by decide)⟩
    · refine evSucc (fun k => by rw [spec_UnionOf.j0]) ?_
      exact evT rfl (evS _)
    · refine evSucc (fun k => by rw [impl_UnionOf.j0]) ?_
      exact evF (by simp) (evE (by simp) (evS _))
  | true =>
    obtain ⟨p0, p1⟩ := field_facts n fL fR fB hb
    cases c with
    | false =>
      refine ⟨(0, 0, 0, 0, 1), evG rfl (evT rfl (evG rfl ?_)), evG rfl (evT rfl (evG rfl (evB (first_two _ _ _ _) ?_))), fun h => absurd h (by decide)⟩
      · refine evSucc (fun k => by rw [spec_UnionOf.j0]) ?_
        exact evT rfl (evS _)
      · refine evSucc (fun k => by rw [impl_UnionOf.j0]) ?_
        exact evF (by simp) (evE (by simp) (evS _))
    | true =>
      obtain ⟨q0, q1⟩ := field_facts m gL gR gB hc
      have hw : wrap64 (n + m) = n + m := wrap_in (by omega) (by omega)
      by_cases e : n + m ≤ 8
      · refine ⟨(n + m, outU n gL (m - 1).toNat 1 fL, Go.bits .or .i64 fR (shl .i64 gR n), Go.bits .or .i64 fB (shl .i64 gB n), 0), evG rfl (evT rfl (evG rfl ?_)), evG rfl (evT rfl (evG rfl (evB (first_two _ _ _ _) ?_))), fun _ => ⟨rfl, rfl, e, rfl⟩⟩
        · refine evSucc (fun k => by rw [spec_UnionOf.j0]) ?_
          rw [hw]
          refine evF (by simp) (evF (by omega) (evB (a := (n + m, outU n gL (m - 1).toNat 1 fL, Go.bits .or .i64 fR (shl .i64 gR n), Go.bits .or .i64 fB (shl .i64 gB n))) ?_ (evS _)))
          unfold spec_l05Union.f
          rw [u64_at n (by omega) (by omega), hw]
          exact evT (by omega) (out_spec n m gL gR gB fL fR fB _ _ _ (by omega) (by omega) (m - 1).toNat 1 fL (by omega) (by omega))
        · refine evSucc (fun k => by rw [impl_UnionOf.j0]) ?_
          rw [hw]
          refine evT (by simp [e]) (evT (by omega) ?_)
          refine evE ?_ (out_impl n m gL gR gB _ _ _ (by omega) (by omega) m.toNat 0 fL (by omega) (by omega))
          rw [show m.toNat = (m - 1).toNat + 1 by omega]
          rfl
      · refine ⟨(0, 0, 0, 0, 3), evG rfl (evT rfl (evG rfl ?_)), evG rfl (evT rfl (evG rfl (evB (first_two _ _ _ _) ?_))), fun h => absurd h (by decide)⟩
        · refine evSucc (fun k => by rw [spec_UnionOf.j0]) ?_
          rw [hw]
          exact evF (by simp) (evT (by omega) (evS _))
        · refine evSucc (fun k => by rw [impl_UnionOf.j0]) ?_
          rw [hw]
          exact evF (by simp [e]) (evE (by simp [e]) (evS _))

/-- The reference's union, whatever the sets are. -/
theorem union_spec (n fL fR fB m gL gR gB : Int) (hn : 0 ≤ n ∧ n ≤ 8) (hm : 1 ≤ m ∧ m ≤ 8) : Ev (fun k => spec_l05Union.f k n fL fR fB m gL gR gB) (n + m, outU n gL (m - 1).toNat 1 fL, Go.bits .or .i64 fR (shl .i64 gR n), Go.bits .or .i64 fB (shl .i64 gB n)) := by
  unfold spec_l05Union.f
  rw [u64_at n (by omega) (by omega), wrap_in (x := n + m) (by omega) (by omega)]
  exact evT (by omega) (out_spec n m gL gR gB fL fR fB _ _ _ (by omega) (by omega) (m - 1).toNat 1 fL (by omega) (by omega))
/-! The lines of a union. -/
theorem tri_mono : ∀ d x : Nat, tri x ≤ tri (x + d)
  | 0, _ => Nat.le_refl _
  | d + 1, x => by
    have := tri_mono d x
    rw [← Nat.add_assoc, tri_succ]
    omega
theorem tri_up {x y : Nat} (h : x ≤ y) : tri x ≤ tri y := by
  have := tri_mono (y - x) x
  rwa [show x + (y - x) = y by omega] at this
theorem tri_one {x y x' y' : Nat} (h : y < x) (h' : y' < x') (e : tri x + y = tri x' + y') : x = x' ∧ y = y' := by
  have s1 := tri_succ x
  have s2 := tri_succ x'
  rcases Nat.lt_trichotomy x x' with c | c | c
  · have := tri_up (x := x + 1) (y := x') c
    omega
  · subst c
    exact ⟨rfl, by omega⟩
  · have := tri_up (x := x' + 1) (y := x) c
    omega
theorem inn_bits (p M : Nat) (j : Nat) (hj : p + j + 1 ≤ 8) (d : Nat) : ∀ (i a : Nat), i + d = j → a < 2 ^ 28 → ∃ a' : Nat, innU (p : Int) (M : Int) (j : Int) d (i : Int) (a : Int) = (a' : Int) ∧ a' < 2 ^ 28 ∧
    ∀ e, a'.testBit e = true ↔ a.testBit e = true ∨ ∃ i', i ≤ i' ∧ i' < j ∧ e = tri (p + j) + (p + i') ∧ jn (M : Int) (i' : Int) (j : Int) = true := by
  induction d with
  | zero =>
    intro i a hi ha
    exact ⟨a, rfl, ha, fun e => ⟨Or.inl, fun h => h.elim id (fun ⟨i', h1, h2, _⟩ => by omega)⟩⟩
  | succ d ih =>
    intro i a hi ha
    have hT : trI ((p : Int) + (j : Int)) = (tri (p + j) : Int) := by
      have := trI_nat (p + j) (by omega)
      rwa [Int.natCast_add] at this
    have h28 := tri_le (p + j + 1) hj
    rw [tri_succ] at h28
    have e0 : innU (p : Int) (M : Int) (j : Int) (d + 1) (i : Int) (a : Int) = innU (p : Int) (M : Int) (j : Int) d ((i : Int) + 1) (if jn (M : Int) (i : Int) (j : Int) = true then Go.bits .or .i64 (a : Int) (shl .i64 1 (trI ((p : Int) + (j : Int)) + (p : Int) + (i : Int))) else (a : Int)) := rfl
    rw [e0, hT, show (tri (p + j) : Int) + (p : Int) + (i : Int) = ((tri (p + j) + (p + i) : Nat) : Int) by omega, show (i : Int) + 1 = ((i + 1 : Nat) : Int) by omega]
    by_cases c : jn (M : Int) (i : Int) (j : Int) = true
    · rw [if_pos c, or_step a _ (Nat.lt_trans ha (by decide)) (by omega)]
      obtain ⟨a', h1, h2, h3⟩ := ih (i + 1) (a ||| 2 ^ (tri (p + j) + (p + i))) (by omega) (or_lt 28 a _ ha (by omega))
      refine ⟨a', h1, h2, fun e => (h3 e).trans ?_⟩
      rw [or_bit, Bool.or_eq_true, decide_eq_true_eq]
      constructor
      · rintro ((h | h) | ⟨i', g1, g2, g3, g4⟩)
        · exact Or.inl h
        · exact Or.inr ⟨i, Nat.le_refl _, by omega, h.symm, c⟩
        · exact Or.inr ⟨i', by omega, g2, g3, g4⟩
      · rintro (h | ⟨i', g1, g2, g3, g4⟩)
        · exact Or.inl (Or.inl h)
        · by_cases q : i' = i
          · subst q
            exact Or.inl (Or.inr g3.symm)
          · exact Or.inr ⟨i', by omega, g2, g3, g4⟩
    · rw [if_neg c]
      obtain ⟨a', h1, h2, h3⟩ := ih (i + 1) a (by omega) ha
      refine ⟨a', h1, h2, fun e => (h3 e).trans ?_⟩
      constructor
      · rintro (h | ⟨i', g1, g2, g3, g4⟩)
        · exact Or.inl h
        · exact Or.inr ⟨i', by omega, g2, g3, g4⟩
      · rintro (h | ⟨i', g1, g2, g3, g4⟩)
        · exact Or.inl h
        · by_cases q : i' = i
          · subst q
            exact absurd g4 c
          · exact Or.inr ⟨i', by omega, g2, g3, g4⟩
theorem out_bits (p M q : Nat) (hp : p + q ≤ 8) (d : Nat) : ∀ (j a : Nat), j + d = q → a < 2 ^ 28 → ∃ a' : Nat, outU (p : Int) (M : Int) d (j : Int) (a : Int) = (a' : Int) ∧ a' < 2 ^ 28 ∧
    ∀ e, a'.testBit e = true ↔ a.testBit e = true ∨ ∃ j' i', j ≤ j' ∧ j' < q ∧ i' < j' ∧ e = tri (p + j') + (p + i') ∧ jn (M : Int) (i' : Int) (j' : Int) = true := by
  induction d with
  | zero =>
    intro j a hj ha
    exact ⟨a, rfl, ha, fun e => ⟨Or.inl, fun h => h.elim id (fun ⟨j', i', h1, h2, _⟩ => by omega)⟩⟩
  | succ d ih =>
    intro j a hj ha
    obtain ⟨b, h1, h2, h3⟩ := inn_bits p M j (by omega) j 0 a (by omega) ha
    obtain ⟨a', g1, g2, g3⟩ := ih (j + 1) b (by omega) h2
    have e0 : outU (p : Int) (M : Int) (d + 1) (j : Int) (a : Int) = outU (p : Int) (M : Int) d ((j : Int) + 1) (innU (p : Int) (M : Int) (j : Int) (j : Int).toNat 0 (a : Int)) := rfl
    refine ⟨a', ?_, g2, fun e => (g3 e).trans ?_⟩
    · rw [e0, Int.toNat_natCast, show (0 : Int) = ((0 : Nat) : Int) from rfl, h1, show (j : Int) + 1 = ((j + 1 : Nat) : Int) by omega]
      exact g1
    · rw [h3 e]
      constructor
      · rintro ((h | ⟨i', _, k2, k3, k4⟩) | ⟨j', i', k1, k2, k3, k4, k5⟩)
        · exact Or.inl h
        · exact Or.inr ⟨j, i', Nat.le_refl _, by omega, k2, k3, k4⟩
        · exact Or.inr ⟨j', i', by omega, k2, k3, k4, k5⟩
      · rintro (h | ⟨j', i', k1, k2, k3, k4, k5⟩)
        · exact Or.inl (Or.inl h)
        · by_cases c : j' = j
          · subst c
            exact Or.inl (Or.inr ⟨i', Nat.zero_le _, k3, k4, k5⟩)
          · exact Or.inr ⟨j', i', by omega, k2, k3, k4, k5⟩
theorem jn_comm (L i j : Int) : jn L i j = jn L j i := by
  unfold jn mx mn
  by_cases h : i = j
  · subst h
    rfl
  · rcases Int.lt_or_gt_of_ne h with c | c
    · simp only [if_pos c, show ¬ j < i by omega, if_false]
    · simp only [if_pos c, show ¬ i < j by omega, if_false]
theorem shl_up8 (c p : Nat) (hc : c < 256) (hp : p ≤ 8) : shl .i64 (c : Int) (p : Int) = ((c <<< p : Nat) : Int) := by
  have hd : ∀ p : Fin 9, ∀ c : Fin 256, shl .i64 ((c.val : Nat) : Int) ((p.val : Nat) : Int) = ((c.val <<< p.val : Nat) : Int) := by decide +kernel
  exact hd ⟨p, by omega⟩ ⟨c, hc⟩
theorem put_bit (a c p i : Nat) (ha : a < 2 ^ p) : (a ||| c <<< p).testBit i = if i < p then a.testBit i else c.testBit (i - p) := by
  rw [Nat.testBit_or, Nat.testBit_shiftLeft]
  by_cases h : i < p
  · rw [if_pos h, decide_eq_false (by omega)]
    simp
  · rw [if_neg h, bit_ge p a i ha (by omega), decide_eq_true (by omega)]
    simp
theorem put_lt (a c p q : Nat) (ha : a < 2 ^ p) (hc : c < 2 ^ q) : a ||| c <<< p < 2 ^ (p + q) := by
  refine Nat.or_lt_two_pow (Nat.lt_of_lt_of_le ha (Nat.pow_le_pow_right (by decide) (by omega))) ?_
  rw [Nat.shiftLeft_eq, Nat.pow_add, Nat.mul_comm (2 ^ p)]
  exact Nat.mul_lt_mul_of_pos_right hc (Nat.pow_pos (by decide))
theorem union_fld {p L a b q M c d : Nat} (h1 : Fld p L a b) (h2 : Fld q M c d) (h8 : p + q ≤ 8) :
    ∃ U V W : Nat, outU (p : Int) (M : Int) ((q : Int) - 1).toNat 1 (L : Int) = (U : Int) ∧ Go.bits .or .i64 (a : Int) (shl .i64 (c : Int) (p : Int)) = (V : Int) ∧ Go.bits .or .i64 (b : Int) (shl .i64 (d : Int) (p : Int)) = (W : Int) ∧ Fld (p + q) U V W ∧
      ∀ x y : Nat, y < x → x < p + q → jn (U : Int) (x : Int) (y : Int) = if x < p then jn (L : Int) (x : Int) (y : Int) else if p ≤ y then jn (M : Int) ((x - p : Nat) : Int) ((y - p : Nat) : Int) else false := by
  obtain ⟨s1, s2, s3⟩ := h1.small
  obtain ⟨z1, z2, z3⟩ := h2.small
  have hq1 := h2.p1
  obtain ⟨U, g1, g2, g3⟩ := out_bits p M q h8 (q - 1) 1 L (by omega) (by rw [show (2 : Nat) ^ 28 = 268435456 by decide]; exact s1)
  rw [show ((1 : Nat) : Int) = 1 from rfl, show q - 1 = ((q : Int) - 1).toNat by omega] at g1
  have hl := h1.l
  have line : ∀ x y : Nat, y < x → x < p + q → (U.testBit (tri x + y) = true ↔ if x < p then L.testBit (tri x + y) = true else p ≤ y ∧ jn (M : Int) ((y - p : Nat) : Int) ((x - p : Nat) : Int) = true) := by
    intro x y hy hx
    rw [g3]
    by_cases hp : x < p
    · rw [if_pos hp]
      constructor
      · rintro (h | ⟨j', i', k1, k2, k3, k4, k5⟩)
        · exact h
        · have := (tri_one hy (by omega) k4).1
          omega
      · exact Or.inl
    · rw [if_neg hp]
      have hL : L.testBit (tri x + y) = false := bit_ge (tri p) L _ hl (Nat.le_trans (tri_up (by omega)) (Nat.le_add_right _ _))
      rw [hL]
      constructor
      · rintro (h | ⟨j', i', k1, k2, k3, k4, k5⟩)
        · cases h
        · obtain ⟨e1, e2⟩ := tri_one hy (by omega) k4
          subst e1 e2
          refine ⟨by omega, ?_⟩
          rw [show p + i' - p = i' by omega, show p + j' - p = j' by omega]
          exact k5
      · rintro ⟨k1, k2⟩
        exact Or.inr ⟨x - p, y - p, by omega, by omega, by omega, by rw [show p + (x - p) = x by omega, show p + (y - p) = y by omega], k2⟩
  refine ⟨U, a ||| c <<< p, b ||| d <<< p, g1, ?_, ?_, ⟨by have := h1.p1; omega, h8, ?_, ?_⟩, ?_⟩
  · rw [shl_up8 c p z2 (by omega)]
    have := put_lt a c p q h1.two.1 h2.two.1
    exact or_nat a _ (Nat.lt_trans s2 (by decide)) (Nat.lt_of_le_of_lt Nat.right_le_or (Nat.lt_of_lt_of_le this (Nat.pow_le_pow_right (by decide) (by omega))))
  · rw [shl_up8 d p z3 (by omega)]
    have := put_lt b d p q h1.two.2.1 h2.two.2.1
    exact or_nat b _ (Nat.lt_trans s3 (by decide)) (Nat.lt_of_le_of_lt Nat.right_le_or (Nat.lt_of_lt_of_le this (Nat.pow_le_pow_right (by decide) (by omega))))
  · refine Nat.lt_pow_two_of_testBit _ (fun e he => ?_)
    cases hb : U.testBit e with
    | false => rfl
    | true =>
      rcases (g3 e).1 hb with h | ⟨j', i', k1, k2, k3, k4, k5⟩
      · rw [bit_ge (tri p) L e hl (Nat.le_trans (tri_up (by omega)) he)] at h
        cases h
      · have t1 := tri_up (x := p + j' + 1) (y := p + q) (by omega)
        rw [tri_succ] at t1
        omega
  · refine ⟨put_lt a c p q h1.two.1 h2.two.1, put_lt b d p q h1.two.2.1 h2.two.2.1, fun i => (dg_three _ _ i).2 ?_⟩
    rw [put_bit a c p i h1.two.1, put_bit b d p i h1.two.2.1]
    by_cases h : i < p
    · rw [if_pos h, if_pos h]
      exact (dg_three a b i).1 (h1.two.2.2 i)
    · rw [if_neg h, if_neg h]
      exact (dg_three c d (i - p)).1 (h2.two.2.2 (i - p))
  · intro x y hy hx
    have hU : U < 2 ^ 62 := Nat.lt_trans g2 (by decide)
    have e := line x y hy hx
    rw [jn_comm, jn_bit U y x hU hy (by omega), Bool.eq_iff_iff, e]
    by_cases hp : x < p
    · rw [if_pos hp, if_pos hp, jn_comm, jn_bit L y x (Nat.lt_trans s1 (by decide)) hy (by omega)]
    · rw [if_neg hp, if_neg hp]
      by_cases hy2 : p ≤ y
      · rw [if_pos hy2, jn_comm (M : Int) ((x - p : Nat) : Int)]
        exact ⟨fun h => h.2, fun h => ⟨hy2, h⟩⟩
      · rw [if_neg hy2]
        exact ⟨fun h => absurd h.1 hy2, fun h => by cases h⟩
/-! Joined points. -/
theorem joined_fld {p L a b : Nat} (h : Fld p L a b) (x y : Int) (hx : 0 ≤ x ∧ x < p) (hy : 0 ≤ y ∧ y < p) (hn : x ≠ y) : Ev (fun k => impl_AreJoined.f k (p : Int) (L : Int) (a : Int) (b : Int) x y) (jn (L : Int) x y, 0) := by
  have h8 := h.p8
  unfold impl_AreJoined.f
  rw [within_eq, within_eq, wrap_in (x := (p : Int) - 1) (by omega) (by omega), decide_eq_true (show 0 ≤ x ∧ x ≤ (p : Int) - 1 by omega), decide_eq_true (show 0 ≤ y ∧ y ≤ (p : Int) - 1 by omega)]
  refine evG rfl (evT rfl (evG rfl (evT rfl (evSucc (fun k => by rw [impl_AreJoined.j0]) ?_))))
  refine evG h.is (evB (first_two _ _ _ _) (evT (by simp [hn]) (evG (joins_impl (p : Int) (L : Int) (a : Int) (b : Int) x y (by omega) (by omega) hn) (evS _))))
theorem joined_both (P L R B x y : Int) : ∃ (b : Bool) (c : Int), Ev (fun k => impl_AreJoined.f k P L R B x y) (b, c) ∧ spec_AreJoined.f P L R B x y = some (b, c) := by
  obtain ⟨b0, hb⟩ := field_total P L R B
  have hj : ∀ (q : Bool) (r : Bool × Int), (if b0 = true then if q = true then Ev (fun _ => (impl_Field_joins.f P L R B x y).bind fun t => some (t, (0 : Int))) r else r = (false, 2) else r = (false, 1)) → Ev (fun k => impl_AreJoined.j0 k x y q P L R B) r := by
    intro q r h
    refine evSucc (fun k => by rw [impl_AreJoined.j0]) (evG hb (evB (first_two _ _ _ _) ?_))
    cases b0 with
    | false => exact evF (by simp) (evE (by simpa using h.symm) (evS _))
    | true =>
      cases q with
      | false => exact evF (by simp) (evE (by simpa using h.symm) (evS _))
      | true => exact evT (by simp) (by simpa using h)
  unfold impl_AreJoined.f spec_AreJoined.f
  rw [isField_same, hb, within_eq, within_eq, l01In_eq, l01In_eq, Option.bind_some]
  cases b0 with
  | false =>
    refine ⟨false, 1, ?_, by rw [if_neg (by decide)]⟩
    by_cases hx : 0 ≤ x ∧ x ≤ wrap64 (P - 1)
    · rw [decide_eq_true hx]
      refine evG rfl (evT rfl (evG rfl ?_))
      by_cases hy : 0 ≤ y ∧ y ≤ wrap64 (P - 1)
      · exact evT (decide_eq_true hy) (hj _ _ (by simp))
      · exact evF (by simpa using hy) (hj _ _ (by simp))
    · rw [decide_eq_false hx]
      exact evG rfl (evF (by decide) (hj _ _ (by simp)))
  | true =>
    obtain ⟨p0, p1⟩ := field_facts P L R B hb
    rw [if_pos rfl, Option.bind_some, Option.bind_some]
    by_cases hx : 0 ≤ x ∧ x ≤ wrap64 (P - 1)
    · rw [decide_eq_true hx, if_pos rfl]
      by_cases hy : 0 ≤ y ∧ y ≤ wrap64 (P - 1)
      · rw [decide_eq_true hy, if_pos rfl]
        rw [wrap_in (x := P - 1) (by omega) (by omega)] at hx hy
        by_cases hn : x = y
        · refine ⟨false, 2, evG rfl (evT rfl (evG rfl (evT rfl (hj _ _ ?_)))), by rw [if_pos hn]⟩
          subst hn
          simp
        · refine ⟨jn L x y, 0, evG rfl (evT rfl (evG rfl (evT rfl (hj _ _ ?_)))), ?_⟩
          · rw [if_pos rfl, if_pos (by simpa using hn), joins_impl P L R B x y (by omega) (by omega) hn]
            exact evS _
          · rw [if_neg hn, joins_spec P L R B x y (by omega) (by omega), Option.bind_some]
      · rw [decide_eq_false hy, if_neg (by decide)]
        exact ⟨false, 2, evG rfl (evT rfl (evG rfl (evF (by decide) (hj _ _ (by simp))))), rfl⟩
    · rw [decide_eq_false hx, if_neg (by decide)]
      exact ⟨false, 2, evG rfl (evF (by decide) (hj _ _ (by simp))), rfl⟩
end Go.Proofs.YtlmohkbimnhecaaGreatDoor.B
