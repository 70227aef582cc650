/-
  Fields: program's and reference's tests of fields and of joined points come to the same. No condition beyond those that are written.
  Colours and digits of fields, and fields as pairs of sets. Fields alone, as the facts ask.
  Fairness of fields, the codes of fields, and the points that a player may colour: program and reference come to the same. No condition beyond those that are written.
  The points that a player may colour: program and reference come to one plain list. Fields alone, as the facts ask.
-/
import Derived.Test.YtlmohkbimnhecaaGreatDoorQ3
import Derived.Test.YtlmohkbimnhecaaGreatDoorQ4
import Derived.Test.YtlmohkbimnhecaaGreatDoorQ1
import Derived.Test.YtlmohkbimnhecaaGreatDoorBase
import Derived.Test.YtlmohkbimnhecaaGreatDoorOutPoints

namespace Go.Proofs.YtlmohkbimnhecaaGreatDoor.B
open Go.RowKit Go.Proofs.YtlmohkbimnhecaaGreatDoor.Q Go.Proofs.YtlmohkbimnhecaaGreatDoorW.PrintWords Go.Proofs.YtlmohkbimnhecaaGreatDoorW.PrintLast Go.Proofs.YtlmohkbimnhecaaGreatDoorW.PrintMore

/-- The number of pairs, as the program reckons it. -/
def trI (n : Int) : Int := wrap64 (Int.tdiv (wrap64 (n * (wrap64 (n - 1)))) 2)
theorem trI_range (n : Int) (h0 : 0 ≤ n) (h1 : n ≤ 16) : 0 ≤ trI n ∧ trI n ≤ 120 ∧ IntKind.u64.wrap (trI n) = trI n := by
  have h : ∀ m : Fin 17, 0 ≤ trI (m.val : Nat) ∧ trI (m.val : Nat) ≤ 120 ∧ IntKind.u64.wrap (trI (m.val : Nat)) = trI (m.val : Nat) := by decide +kernel
  have := h ⟨n.toNat, by omega⟩
  simp only [Int.toNat_of_nonneg h0] at this
  exact this
theorem u64_at (n : Int) (h0 : 0 ≤ n) (h1 : n ≤ 1000000) : IntKind.u64.wrap n = n := by
  have : IntKind.u64.wrap n = n % 18446744073709551616 := by
    simp [IntKind.wrap, IntKind.bits, IntKind.signed]
  omega
theorem isField_same (P L R B : Int) : spec_l05Is.f P L R B = impl_IsField.f P L R B := by
  unfold impl_IsField.f spec_l05Is.f impl_pairs.f
  simp only [within_eq, l01In_eq, Option.bind_some]
  by_cases h : 1 ≤ P ∧ P ≤ 8
  · obtain ⟨t0, t1, t2⟩ := trI_range P (by omega) (by omega)
    rw [show wrap64 (Int.tdiv (wrap64 (P * (wrap64 (P - 1)))) 2) = trI P from rfl, t2, u64_at P (by omega) (by omega), if_pos t0, if_pos t0, if_pos (show 0 ≤ P by omega)]
    rw [decide_eq_true h]
    simp only [if_true]
    by_cases c : 0 ≤ L ∧ L ≤ wrap64 (shl .i64 1 (trI P) - 1)
    · rw [decide_eq_true c]
      simp only [if_true]
      rw [if_pos (show 0 ≤ P by omega)]
    · rw [decide_eq_false c]
      rfl
  · rw [decide_eq_false h]
    rfl
/-- Whether two points are joined. -/
def jn (L i j : Int) : Bool := Go.bits .and .i64 (shr .i64 L (trI (mx i j) + mn i j)) 1 == 1
theorem joins_impl (P L R B i j : Int) (hi : 0 ≤ i ∧ i ≤ 16) (hj : 0 ≤ j ∧ j ≤ 16) (hne : i ≠ j) : impl_Field_joins.f P L R B i j = some (jn L i j) := by
  have hm : (0 ≤ mx i j ∧ mx i j ≤ 16) ∧ (0 ≤ mn i j ∧ mn i j ≤ 16) ∧ mn i j ≠ mx i j := by
    unfold mx mn
    split <;> (split <;> omega)
  obtain ⟨⟨a0, a1⟩, ⟨b0, b1⟩, hn⟩ := hm
  obtain ⟨t0, t1, t2⟩ := trI_range (mx i j) a0 a1
  unfold impl_Field_joins.f impl_pairs.f jn
  rw [if_neg hn, show wrap64 (Int.tdiv (wrap64 ((mx i j) * (wrap64 ((mx i j) - 1)))) 2) = trI (mx i j) from rfl]
  simp only [Option.bind_some]
  rw [wrap_in (x := trI (mx i j) + mn i j) (by omega) (by omega), if_pos (by omega)]
theorem joins_spec (P L R B i j : Int) (hi : 0 ≤ i ∧ i ≤ 16) (hj : 0 ≤ j ∧ j ≤ 16) : spec_l05Joined.f P L R B i j = some (jn L i j) := by
  have hm : (0 ≤ mx i j ∧ mx i j ≤ 16) ∧ (0 ≤ mn i j ∧ mn i j ≤ 16) := by
    unfold mx mn
    split <;> (split <;> omega)
  obtain ⟨⟨a0, a1⟩, b0, b1⟩ := hm
  obtain ⟨t0, t1, t2⟩ := trI_range (mx i j) a0 a1
  unfold spec_l05Joined.f jn
  rw [show wrap64 (Int.tdiv (wrap64 ((mx i j) * (wrap64 ((mx i j) - 1)))) 2) = trI (mx i j) from rfl]
  rw [wrap_in (x := trI (mx i j) + mn i j) (by omega) (by omega), u64_at _ (by omega) (by omega), if_pos (by omega)]
theorem field_facts (P L R B : Int) (h : impl_IsField.f P L R B = some true) : 1 ≤ P ∧ P ≤ 8 := by
  unfold impl_IsField.f at h
  rw [within_eq] at h
  by_cases c : 1 ≤ P ∧ P ≤ 8
  · exact c
  · rw [decide_eq_false c] at h
    simp at h
theorem field_total (P L R B : Int) : ∃ b, impl_IsField.f P L R B = some b := by
  unfold impl_IsField.f impl_pairs.f
  simp only [within_eq, Option.bind_some]
  by_cases h : 1 ≤ P ∧ P ≤ 8
  · obtain ⟨t0, t1, t2⟩ := trI_range P (by omega) (by omega)
    rw [show wrap64 (Int.tdiv (wrap64 (P * (wrap64 (P - 1)))) 2) = trI P from rfl, if_pos t0, if_pos (show 0 ≤ P by omega)]
    repeat' split
    all_goals exact ⟨_, rfl⟩
  · rw [decide_eq_false h]
    exact ⟨false, rfl⟩
end Go.Proofs.YtlmohkbimnhecaaGreatDoor.B

namespace Go.Proofs.YtlmohkbimnhecaaGreatDoor.B
open Go.RowKit Go.Proofs.YtlmohkbimnhecaaGreatDoor.Q Go.Proofs.YtlmohkbimnhecaaGreatDoorW.PrintWords Go.Proofs.YtlmohkbimnhecaaGreatDoorW.PrintLast Go.Proofs.YtlmohkbimnhecaaGreatDoorW.PrintMore

/-- The colour of a point. -/
def col (R B i : Int) : Int := wrap64 ((Go.bits .and .i64 (shr .i64 R i) 1) + (wrap64 (2 * (Go.bits .and .i64 (shr .i64 B i) 1))))
theorem colour_impl (P L R B i : Int) (h : 0 ≤ i) : impl_Field_colour.f P L R B i = some (col R B i) := by
  unfold impl_Field_colour.f col
  rw [if_pos h]
/-- A digit of a set. -/
theorem dig_div (x e : Int) (h0 : 0 ≤ x) (h1 : x < 9223372036854775808) (he0 : 0 ≤ e) (he1 : e ≤ 60) : Go.bits .and .i64 (shr .i64 x e) 1 = ((x.toNat / 2 ^ e.toNat % 2 : Nat) : Int) := by
  have r := shr_range x e h0 h1
  rw [bit01 _ r.1 r.2]
  unfold shr
  obtain ⟨n, rfl⟩ := Int.eq_ofNat_of_zero_le h0
  rw [show min e.toNat IntKind.i64.bits = e.toNat from Nat.min_eq_left (by have : IntKind.i64.bits = 64 := rfl; omega), Int.toNat_natCast]
  have e2 : ((2 : Int) ^ e.toNat) = ((2 ^ e.toNat : Nat) : Int) := by push_cast; rfl
  rw [e2]
  generalize 2 ^ e.toNat = m
  rw [Int.natCast_emod, Int.natCast_ediv]
  rfl
theorem dig_bit (a : Nat) (i : Int) (ha : a < 2 ^ 62) (h0 : 0 ≤ i) (h1 : i ≤ 60) : Go.bits .and .i64 (shr .i64 (a : Int) i) 1 = (((a.testBit i.toNat).toNat : Nat) : Int) := by
  have k62 : (2 : Nat) ^ 62 = 4611686018427387904 := by decide
  rw [dig_div _ i (by omega) (by omega) h0 h1, Int.toNat_natCast, Nat.testBit_eq_decide_div_mod_eq]
  have := Nat.mod_two_eq_zero_or_one (a / 2 ^ i.toNat)
  rcases this with e | e <;> simp [e]
theorem col_dg (a b : Nat) (i : Int) (ha : a < 2 ^ 62) (hb : b < 2 ^ 62) (h0 : 0 ≤ i) (h1 : i ≤ 60) : col a b i = ((dg a b i.toNat : Nat) : Int) := by
  unfold col dg
  rw [dig_bit a i ha h0 h1, dig_bit b i hb h0 h1]
  cases a.testBit i.toNat <;> cases b.testBit i.toNat <;> decide +kernel
theorem field_two (P L R B : Int) (h : impl_IsField.f P L R B = some true) : ∃ a b : Nat, R = a ∧ B = b ∧ Two P.toNat a b := by
  obtain ⟨p0, p1⟩ := field_facts P L R B h
  obtain ⟨t0, t1, t2⟩ := trI_range P (by omega) (by omega)
  have hs := shl_one P (by omega) (by omega)
  have hp := pow_le P 8 (by omega)
  have hq := pow_pos' P
  have hf : wrap64 (shl .i64 1 P - 1) = ((2 ^ P.toNat : Nat) : Int) - 1 := by rw [hs, wrap_in (by omega) (by omega)]
  unfold impl_IsField.f impl_pairs.f at h
  simp only [within_eq, Option.bind_some] at h
  rw [hf, decide_eq_true (show 1 ≤ P ∧ P ≤ 8 from ⟨p0, p1⟩), show wrap64 (Int.tdiv (wrap64 (P * (wrap64 (P - 1)))) 2) = trI P from rfl, if_pos rfl, if_pos t0] at h
  split at h
  · rw [if_pos (show 0 ≤ P by omega)] at h
    split at h
    · rename_i hr
      split at h
      · rename_i hb
        have hr' := of_decide_eq_true hr
        have hb' := of_decide_eq_true hb
        obtain ⟨a, rfl⟩ := Int.eq_ofNat_of_zero_le hr'.1
        obtain ⟨b, rfl⟩ := Int.eq_ofNat_of_zero_le hb'.1
        have ha : a < 2 ^ P.toNat := by omega
        have hb2 : b < 2 ^ P.toNat := by omega
        refine ⟨a, b, rfl, rfl, two_of_and P.toNat a b ha hb2 ?_⟩
        rw [and_nat a b (Nat.lt_of_lt_of_le ha (Nat.pow_le_pow_right (by decide) (by omega))) (Nat.lt_of_lt_of_le hb2 (Nat.pow_le_pow_right (by decide) (by omega)))] at h
        simp at h
        omega
      · cases h
    · cases h
  · cases h
theorem pow62 (n i : Nat) (hi : i ≤ n) (hn : n ≤ 61) : 2 ^ i < 2 ^ 62 := Nat.pow_lt_pow_right (by decide) (by omega)
theorem Two.small {n a b : Nat} (h : Two n a b) (hn : n ≤ 61) : a < 2 ^ 62 ∧ b < 2 ^ 62 := ⟨Nat.lt_trans h.1 (pow62 61 n hn (by decide)), Nat.lt_trans h.2.1 (pow62 61 n hn (by decide))⟩
end Go.Proofs.YtlmohkbimnhecaaGreatDoor.B

namespace Go.Proofs.YtlmohkbimnhecaaGreatDoor.B
open Go.RowKit Go.Proofs.YtlmohkbimnhecaaGreatDoor.Q Go.Proofs.YtlmohkbimnhecaaGreatDoorW.PrintWords Go.Proofs.YtlmohkbimnhecaaGreatDoorW.PrintLast Go.Proofs.YtlmohkbimnhecaaGreatDoorW.PrintMore

theorem col_cases (R B i : Int) : col R B i = 0 ∨ col R B i = 1 ∨ col R B i = 2 ∨ col R B i = 3 := by
  unfold col
  rcases and_one (shr .i64 R i) with e | e <;> rcases and_one (shr .i64 B i) with g | g <;> rw [e, g] <;> decide +kernel
/-- Two points that spoil a field. -/
def badP (L R B g i j : Int) : Bool := jn L i j && (!(col R B i == 0) && (!(col R B j == 0) && ((col R B i == col R B j) == (g == 0))))
def fairIn (L R B g j : Int) : Nat → Int → Bool
  | 0, _ => true
  | d + 1, i => if badP L R B g i j = true then false else fairIn L R B g j d (i + 1)
def fairOut (L R B g : Int) : Nat → Int → Bool
  | 0, _ => true
  | d + 1, j => if fairIn L R B g j j.toNat 0 = true then fairOut L R B g d (j + 1) else false
/-- Fairness, plainly. -/
def fairB (P L R B g : Int) : Bool := fairOut L R B g P.toNat 0
section
variable (P L R B g : Int)
theorem fin_impl (j : Int) (hj : 0 ≤ j ∧ j < 16) (r : Bool) (hk : Ev (fun k => impl_Field_isFair.l0 k g P (wrap64 (j + 1)) P L R B) r) (d : Nat) :
    ∀ i : Int, 0 ≤ i → j = i + d → Ev (fun k => impl_Field_isFair.l1 k g j P j j i P L R B) (if fairIn L R B g j d i = true then r else false) := by
  induction d with
  | zero =>
    intro i h0 h1
    refine evSucc (fun k => by rw [impl_Field_isFair.l1]) ?_
    exact evF (by omega) (evE (by simp [fairIn]) hk)
  | succ d ih =>
    intro i h0 h1
    refine evSucc (fun k => by rw [impl_Field_isFair.l1]) ?_
    rw [colour_impl P L R B i h0, colour_impl P L R B j hj.1, joins_impl P L R B i j (by omega) (by omega) (by omega), wrap_in (x := i + 1) (by omega) (by omega)]
    have hx := ih (i + 1) (by omega) (by omega)
    refine evT (by omega) (evG rfl (evG rfl (evG rfl ?_)))
    have hs : fairIn L R B g j (d + 1) i = if badP L R B g i j = true then false else fairIn L R B g j d (i + 1) := rfl
    rw [hs]
    unfold badP
    cases c1 : jn L i j with
    | false => exact evF (by simp) (evE (by simp) hx)
    | true =>
      refine evT rfl ?_
      by_cases c2 : col R B i = 0
      · exact evT c2 (evE (by simp [c2]) hx)
      · refine evF c2 ?_
        by_cases c3 : col R B j = 0
        · exact evT c3 (evE (by simp [c3]) hx)
        · refine evF c3 ?_
          cases c4 : ((col R B i == col R B j) == (g == 0)) with
          | true => exact evT rfl (evE (by simp [c2, c3]) (evS false))
          | false => exact evF (by simp) (evE (by simp) hx)
theorem fout_impl (hP : P ≤ 16) (d : Nat) : ∀ j : Int, 0 ≤ j → P = j + d → Ev (fun k => impl_Field_isFair.l0 k g P j P L R B) (fairOut L R B g d j) := by
  induction d with
  | zero =>
    intro j h0 h1
    refine evSucc (fun k => by rw [impl_Field_isFair.l0]) ?_
    exact evF (by omega) (evS _)
  | succ d ih =>
    intro j h0 h1
    refine evSucc (fun k => by rw [impl_Field_isFair.l0]) ?_
    refine evT (by omega) ?_
    have hx := ih (j + 1) (by omega) (by omega)
    exact fin_impl P L R B g j (by omega) _ (by rw [wrap_in (x := j + 1) (by omega) (by omega)]; exact hx) j.toNat 0 (by omega) (by omega)
theorem fin_spec (j : Int) (hj : 0 ≤ j ∧ j < 16) (r : Bool) (hk : Ev (fun k => spec_l05Fair.l0 k g (wrap64 (j + 1)) P L R B) r) (d : Nat) :
    ∀ i : Int, 0 ≤ i → j = i + d → Ev (fun k => spec_l05Fair.l1 k g j i P L R B) (if fairIn L R B g j d i = true then r else false) := by
  induction d with
  | zero =>
    intro i h0 h1
    refine evSucc (fun k => by rw [spec_l05Fair.l1]) ?_
    exact evF (by omega) (evE (by simp [fairIn]) hk)
  | succ d ih =>
    intro i h0 h1
    refine evSucc (fun k => by rw [spec_l05Fair.l1]) ?_
    rw [joins_spec P L R B i j (by omega) (by omega), wrap_in (x := i + 1) (by omega) (by omega), u64_at i h0 (by omega), u64_at j hj.1 (by omega)]
    have e1 : wrap64 ((Go.bits .and .i64 (shr .i64 R i) 1) + (wrap64 (2 * (Go.bits .and .i64 (shr .i64 B i) 1)))) = col R B i := rfl
    have e2 : wrap64 ((Go.bits .and .i64 (shr .i64 R j) 1) + (wrap64 (2 * (Go.bits .and .i64 (shr .i64 B j) 1)))) = col R B j := rfl
    rw [e1, e2]
    have hx := ih (i + 1) (by omega) (by omega)
    refine evT (by omega) (evG rfl ?_)
    have hs : fairIn L R B g j (d + 1) i = if badP L R B g i j = true then false else fairIn L R B g j d (i + 1) := rfl
    rw [hs]
    unfold badP
    have k1 := col_cases R B i
    have k2 := col_cases R B j
    cases c1 : jn L i j with
    | false => exact evF (by simp) (evE (by simp) hx)
    | true =>
      refine evT rfl (evT h0 (evT hj.1 ?_))
      by_cases c2 : col R B i = 0
      · exact evF (by omega) (evE (by simp [c2]) hx)
      · refine evT (by omega) ?_
        by_cases c3 : col R B j = 0
        · exact evF (by omega) (evE (by simp [c3]) hx)
        · refine evT (by omega) ?_
          cases c4 : ((col R B i == col R B j) == (g == 0)) with
          | true => exact evT rfl (evE (by simp [c2, c3]) (evS false))
          | false => exact evF (by simp) (evE (by simp) hx)
theorem fout_spec (hP : P ≤ 16) (d : Nat) : ∀ j : Int, 0 ≤ j → P = j + d → Ev (fun k => spec_l05Fair.l0 k g j P L R B) (fairOut L R B g d j) := by
  induction d with
  | zero =>
    intro j h0 h1
    refine evSucc (fun k => by rw [spec_l05Fair.l0]) ?_
    exact evF (by omega) (evS _)
  | succ d ih =>
    intro j h0 h1
    refine evSucc (fun k => by rw [spec_l05Fair.l0]) ?_
    refine evT (by omega) ?_
    have hx := ih (j + 1) (by omega) (by omega)
    exact fin_spec P L R B g j (by omega) _ (by rw [wrap_in (x := j + 1) (by omega) (by omega)]; exact hx) j.toNat 0 (by omega) (by omega)
theorem fair_impl (hP : 1 ≤ P ∧ P ≤ 16) : Ev (fun k => impl_Field_isFair.f k P L R B g) (fairB P L R B g) := by
  unfold impl_Field_isFair.f fairB
  exact fout_impl P L R B g hP.2 P.toNat 0 (by omega) (by omega)
theorem fair_spec (hP : 1 ≤ P ∧ P ≤ 16) : Ev (fun k => spec_l05Fair.f k P L R B g) (fairB P L R B g) := by
  unfold spec_l05Fair.f fairB
  have h := fout_spec P L R B g hP.2 (P.toNat - 1) 1 (by omega) (by omega)
  rw [show P.toNat = (P.toNat - 1) + 1 by omega]
  exact h
end
/-- The code of a field, a game and a player. -/
def codeF (P L R B g p : Int) (b : Bool) : Int := if b = true then if (0 ≤ g ∧ g ≤ 1) ∧ (0 ≤ p ∧ p ≤ 1) then if fairB P L R B g = true then 0 else 5 else 2 else 1
theorem isBit_eq (x : Int) : impl_isBit.f x = some (decide (0 ≤ x ∧ x ≤ 1)) := by
  unfold impl_isBit.f
  rw [within_eq]
  rfl
theorem code_impl (P L R B g p : Int) (b : Bool) (h : impl_IsField.f P L R B = some b) : Ev (fun k => impl_fieldCode.f k P L R B g p) (codeF P L R B g p b) := by
  unfold impl_fieldCode.f codeF
  rw [h, isBit_eq, isBit_eq]
  refine evG rfl (evG rfl ?_)
  have hj : ∀ c x : Int, (c = 0 → Ev (fun k => impl_fieldCode.j0 k g c P L R B) x) → (c ≠ 0 → x = c) → Ev (fun k => impl_fieldCode.j0 k g c P L R B) x := by
    intro c x h1 h2
    by_cases e : c = 0
    · exact h1 e
    · rw [h2 e]
      refine evSucc (fun k => by rw [impl_fieldCode.j0]) ?_
      exact evF e (evS _)
  cases b with
  | false =>
    by_cases hg : 0 ≤ g ∧ g ≤ 1
    · refine evT (by simpa using hg) (evG rfl (evB (first_two _ _ _ _) (hj _ _ (fun e => absurd e (by simp)) (fun _ => by simp))))
    · refine evF (by simpa using hg) (evB (first_two _ _ _ _) (hj _ _ (fun e => absurd e (by simp)) (fun _ => by simp)))
  | true =>
    obtain ⟨p0, p1⟩ := field_facts P L R B h
    by_cases hg : 0 ≤ g ∧ g ≤ 1
    · refine evT (by simpa using hg) (evG rfl (evB (first_two _ _ _ _) ?_))
      by_cases hp : 0 ≤ p ∧ p ≤ 1
      · rw [decide_eq_true hp]
        refine evSucc (fun k => by rw [impl_fieldCode.j0]) ?_
        refine evT (by simp) (evB (fair_impl P L R B g (by omega)) (evB (first_one _ _) (evE ?_ (evS _))))
        simp [hg, hp]
      · rw [decide_eq_false hp]
        exact hj _ _ (fun e => absurd e (by simp)) (fun _ => by simp [hp])
    · refine evF (by simpa using hg) (evB (first_two _ _ _ _) (hj _ _ (fun e => absurd e (by simp)) (fun _ => by simp [hg])))
theorem code_spec (P L R B g p : Int) (b : Bool) (h : impl_IsField.f P L R B = some b) : Ev (fun k => spec_l05Player.f k P L R B g p) (codeF P L R B g p b) := by
  unfold spec_l05Player.f spec_l05Code.f codeF
  rw [isField_same, h, l01In_eq, l01In_eq]
  cases b with
  | false => exact evB (a := (1 : Int)) (evG rfl (evF (by simp) (evS _))) (evT rfl (evE (by simp) (evS _)))
  | true =>
    obtain ⟨p0, p1⟩ := field_facts P L R B h
    by_cases hg : 0 ≤ g ∧ g ≤ 1
    · refine evB (a := (if fairB P L R B g = true then 0 else 5 : Int)) (evG rfl (evT rfl (evG rfl (evT (by simpa using hg) (evB (fair_spec P L R B g (by omega)) ?_))))) ?_
      · cases fairB P L R B g with
        | true => exact evT rfl (evS _)
        | false => exact evF (by simp) (evS _)
      · refine evF (by split <;> decide) (evG rfl ?_)
        by_cases hp : 0 ≤ p ∧ p ≤ 1
        · exact evT (by simpa using hp) (evE (by simp [hg, hp]) (evS _))
        · exact evF (by simpa using hp) (evE (by simp [hp]) (evS _))
    · refine evB (a := (2 : Int)) (evG rfl (evT rfl (evG rfl (evF (by simpa using hg) (evS _))))) (evF (by decide) (evG rfl ?_))
      by_cases hp : 0 ≤ p ∧ p ≤ 1
      · exact evT (by simpa using hp) (evE (by simp [hg]) (evS _))
      · exact evF (by simpa using hp) (evE (by simp [hp]) (evS _))
end Go.Proofs.YtlmohkbimnhecaaGreatDoor.B

namespace Go.Proofs.YtlmohkbimnhecaaGreatDoor.B
open Go.RowKit Go.Proofs.YtlmohkbimnhecaaGreatDoor.Q Go.Proofs.YtlmohkbimnhecaaGreatDoorW.PrintWords Go.Proofs.YtlmohkbimnhecaaGreatDoorW.PrintLast Go.Proofs.YtlmohkbimnhecaaGreatDoorW.PrintMore

/-- A field's sets behind a move. -/
def mvR (R p i : Int) : Int := if p = 0 then Go.bits .or .i64 R (shl .i64 1 i) else R
def mvB (B p i : Int) : Int := if p = 0 then B else Go.bits .or .i64 B (shl .i64 1 i)
theorem coloured_impl (P L R B p i : Int) (h : 0 ≤ i) : impl_Field_coloured.f P L R B p i = some (P, L, mvR R p i, mvB B p i) := by
  unfold impl_Field_coloured.f mvR mvB
  by_cases c : p = 0
  · rw [if_pos c, if_pos h, if_pos c, if_pos c]
  · rw [if_neg c, if_pos h, if_neg c, if_neg c]
theorem move_spec (P L R B p i : Int) (h : 0 ≤ i) (h1 : i ≤ 1000) : spec_l05Move.f P L R B p i = some (P, L, mvR R p i, mvB B p i) := by
  unfold spec_l05Move.f mvR mvB
  rw [u64_at i h (by omega)]
  by_cases c : p = 0
  · rw [if_pos c, if_pos h, if_pos c, if_pos c]
  · rw [if_neg c, if_pos h, if_neg c, if_neg c]
/-- May this point be coloured? -/
def okP (P L R B g p i : Int) : Bool := (col R B i == 0) && fairB P L (mvR R p i) (mvB B p i) g
def ptsL (P L R B g p : Int) : List Int := (seg 0 P.toNat).filter (okP P L R B g p)
theorem ptsL_len (P L R B g p : Int) (h : P ≤ 8) : (ptsL P L R B g p).length ≤ 8 := by
  have := filter_length_le_seg (okP P L R B g p) 0 P.toNat
  unfold ptsL
  omega
theorem points_impl (P L R B g p : Int) (hP : 1 ≤ P ∧ P ≤ 8) : Ev (fun k => impl_Field_points.f k P L R B g p) (ptsL P L R B g p) := by
  unfold impl_Field_points.f
  refine evT (by omega) ?_
  refine chooseP_ev (fun k => pointsP k P L R B g p) _ _ 0 (fun x hx0 hx1 => ?_)
  unfold pointsP okP
  rw [colour_impl P L R B x hx0]
  refine evG rfl ?_
  by_cases c : col R B x = 0
  · refine evT c ?_
    rw [coloured_impl P L R B p x hx0]
    exact evG rfl (evE (by simp [c]) (fair_impl P L _ _ g (by omega)))
  · exact evF c (evE (by simp [c]) (evS false))
theorem bits3 (x y z : Nat) (hx : x = 0 ∨ x = 1) (hy : y = 0 ∨ y = 1) (hz : z = 0 ∨ z = 1) (ho : decide (z = 1) = (decide (x = 1) || decide (y = 1))) : ((z : Nat) : Int) = if wrap64 ((x : Int) + wrap64 (2 * (y : Int))) = 0 then 0 else 1 := by
  rcases hx with rfl | rfl <;> rcases hy with rfl | rfl <;> rcases hz with rfl | rfl <;> first | (exfalso; revert ho; decide) | decide +kernel
theorem or_digit (R B i : Int) (hR : 0 ≤ R ∧ R < 4611686018427387904) (hB : 0 ≤ B ∧ B < 4611686018427387904) (h0 : 0 ≤ i) (h1 : i ≤ 60) : Go.bits .and .i64 (shr .i64 (Go.bits .or .i64 R B) i) 1 = if col R B i = 0 then 0 else 1 := by
  have k62 : (2 : Nat) ^ 62 = 4611686018427387904 := by decide
  obtain ⟨a, rfl⟩ := Int.eq_ofNat_of_zero_le hR.1
  obtain ⟨b, rfl⟩ := Int.eq_ofNat_of_zero_le hB.1
  have hl := Nat.or_lt_two_pow (x := a) (y := b) (n := 62) (by omega) (by omega)
  unfold col
  rw [or_nat a b (by omega) (by omega), dig_div _ i (by omega) (by omega) h0 h1, dig_div _ i (by omega) (by omega) h0 h1, dig_div _ i (by omega) (by omega) h0 h1]
  simp only [Int.toNat_natCast]
  have ho : (a ||| b).testBit i.toNat = (a.testBit i.toNat || b.testBit i.toNat) := Nat.testBit_or ..
  rw [Nat.testBit_eq_decide_div_mod_eq, Nat.testBit_eq_decide_div_mod_eq, Nat.testBit_eq_decide_div_mod_eq] at ho
  clear hl k62 hR hB h0 h1
  have m1 := Nat.mod_two_eq_zero_or_one (a / 2 ^ i.toNat)
  have m2 := Nat.mod_two_eq_zero_or_one (b / 2 ^ i.toNat)
  have m3 := Nat.mod_two_eq_zero_or_one ((a ||| b) / 2 ^ i.toNat)
  exact bits3 _ _ _ m1 m2 m3 ho
theorem points_spec_l (P L R B g p : Int) (hP : 1 ≤ P ∧ P ≤ 8) (hR : 0 ≤ R ∧ R < 4611686018427387904) (hB : 0 ≤ B ∧ B < 4611686018427387904) (d : Nat) : ∀ (i : Int) (acc : List Int), 0 ≤ i → i + d = P → acc.length ≤ i →
    Ev (fun k => spec_l05Points.l0 k g p acc i P L R B) (acc ++ (seg i d).filter (okP P L R B g p)) := by
  induction d with
  | zero =>
    intro i acc h0 h1 h2
    refine evSucc (fun k => by rw [spec_l05Points.l0]) ?_
    exact evF (by omega) (evE (by simp [seg]) (evS acc))
  | succ d ih =>
    intro i acc h0 h1 h2
    refine evSucc (fun k => by rw [spec_l05Points.l0]) ?_
    rw [u64_at i h0 (by omega), or_digit R B i hR hB h0 (by omega), move_spec P L R B p i h0 (by omega), wrap_in (x := i + 1) (by omega) (by omega)]
    refine evT (by omega) (evT h0 ?_)
    have hq : okP P L R B g p i = ((col R B i == 0) && fairB P L (mvR R p i) (mvB B p i) g) := rfl
    by_cases c : col R B i = 0
    · refine evT (by rw [if_pos c]) (evG rfl (evB (fair_spec P L _ _ g (by omega)) ?_))
      cases hf : fairB P L (mvR R p i) (mvB B p i) g with
      | true =>
        refine evT rfl (evT (by omega) (evE ?_ (ih (i + 1) (acc ++ [i]) (by omega) (by omega) (by simp; omega))))
        simp [seg, hq, c, hf]
      | false =>
        refine evF (by simp) (evE ?_ (ih (i + 1) acc (by omega) (by omega) (by omega)))
        simp [seg, hq, c, hf]
    · refine evF (by rw [if_neg c]; decide) (evE ?_ (ih (i + 1) acc (by omega) (by omega) (by omega)))
      simp [seg, hq, c]
theorem points_spec (P L R B g p : Int) (hP : 1 ≤ P ∧ P ≤ 8) (hR : 0 ≤ R ∧ R < 4611686018427387904) (hB : 0 ≤ B ∧ B < 4611686018427387904) : Ev (fun k => spec_l05Points.f k P L R B g p) (ptsL P L R B g p) := by
  unfold spec_l05Points.f
  have := points_spec_l P L R B g p hP hR hB P.toNat 0 [] (by omega) (by omega) (by simp)
  simpa [ptsL] using this
theorem field_sets (P L R B : Int) (h : impl_IsField.f P L R B = some true) : (0 ≤ R ∧ R < 65536) ∧ (0 ≤ B ∧ B < 65536) := by
  obtain ⟨p0, p1⟩ := field_facts P L R B h
  obtain ⟨t0, t1, t2⟩ := trI_range P (by omega) (by omega)
  have hs := shl_one P (by omega) (by omega)
  have hp := pow_le P 8 (by omega)
  have hq := pow_pos' P
  have hf : wrap64 (shl .i64 1 P - 1) = ((2 ^ P.toNat : Nat) : Int) - 1 := by rw [hs, wrap_in (by omega) (by omega)]
  unfold impl_IsField.f impl_pairs.f at h
  simp only [within_eq, Option.bind_some] at h
  rw [hf, decide_eq_true (show 1 ≤ P ∧ P ≤ 8 from ⟨p0, p1⟩), show wrap64 (Int.tdiv (wrap64 (P * (wrap64 (P - 1)))) 2) = trI P from rfl, if_pos rfl, if_pos t0] at h
  split at h
  · rw [if_pos (show 0 ≤ P by omega)] at h
    split at h
    · rename_i hr
      split at h
      · rename_i hb
        have hr' := of_decide_eq_true hr
        have hb' := of_decide_eq_true hb
        omega
      · cases h
    · cases h
  · cases h
theorem codeF_zero (P L R B g p : Int) (b : Bool) (h : codeF P L R B g p b = 0) : b = true ∧ (0 ≤ g ∧ g ≤ 1) ∧ (0 ≤ p ∧ p ≤ 1) := by
  unfold codeF at h
  split at h
  · rename_i hb
    split at h
    · rename_i hc
      exact ⟨hb, hc.1, hc.2⟩
    · omega
  · omega
end Go.Proofs.YtlmohkbimnhecaaGreatDoor.B
