/-
  The points that a player may colour: program and reference come to one plain list. Fields alone, as the facts ask.
-/
import Derived.Test.YtimoadhkkbedhaaFieldFair
import Derived.Test.YtimoadhkkbedhaaQ5
namespace Go.Proofs.Ytimoadhkkbedhaa.B
open Go.RowKit Go.Proofs.Ytimoadhkkbedhaa.Q Go.Proofs.YtimoadhkkbedhaaW.PrintWords Go.Proofs.YtimoadhkkbedhaaW.PrintLast Go.Proofs.YtimoadhkkbedhaaW.PrintMore

/-- A field's sets behind a move. -/
def mvR (R p i : Int) : Int := if p = 0 then Go.bits .or .i64 R (shl .i64 1 i) else R
def mvB (B p i : Int) : Int := if p = 0 then B else Go.bits .or .i64 B (shl .i64 1 i)
theorem coloured_impl (P L R B p i : Int) (h : 0 ≤ i) : impl_Field_coloured.f P L R B p i = some (P, L, mvR R p i, mvB B p i) := by
  unfold impl_Field_coloured.f mvR mvB
  by_cases c : p = 0
  · rw [if_pos c, if_pos h, if_pos c, if_pos c]
  · rw [if_neg c, if_pos h, if_neg c, if_neg c]
theorem move_spec (P L R B p i : Int) (h : 0 ≤ i) (h1 : i ≤ 1000) : spec_l05Move.f P L R B p i = some (P, L, mvR R p i, mvB B p i) := by
  unfold spec_l05Move.f mvR mvB
  rw [u64_at i h (by omega)]
  by_cases c : p = 0
  · rw [if_pos c, if_pos h, if_pos c, if_pos c]
  · rw [if_neg c, if_pos h, if_neg c, if_neg c]
/-- May this point be coloured? -/
def okP (P L R B g p i : Int) : Bool := (col R B i == 0) && fairB P L (mvR R p i) (mvB B p i) g
def ptsL (P L R B g p : Int) : List Int := (seg 0 P.toNat).filter (okP P L R B g p)
theorem ptsL_len (P L R B g p : Int) (h : P ≤ 8) : (ptsL P L R B g p).length ≤ 8 := by
  have := filter_length_le_seg (okP P L R B g p) 0 P.toNat
  unfold ptsL
  omega
theorem points_impl (P L R B g p : Int) (hP : 1 ≤ P ∧ P ≤ 8) : Ev (fun k => impl_Field_points.f k P L R B g p) (ptsL P L R B g p) := by
  unfold impl_Field_points.f
  refine evT (by omega) ?_
  refine chooseP_ev (fun k => pointsP k P L R B g p) _ _ 0 (fun x hx0 hx1 => ?_)
  unfold pointsP okP
  rw [colour_impl P L R B x hx0]
  refine evG rfl ?_
  by_cases c : col R B x = 0
  · refine evT c ?_
    rw [coloured_impl P L R B p x hx0]
    exact evG rfl (evE (by simp [c]) (fair_impl P L _ _ g (by omega)))
  · exact evF c (evE (by simp [c]) (evS false))
/-- A digit of a set. -/
theorem dig_div (x e : Int) (h0 : 0 ≤ x) (h1 : x < 9223372036854775808) (he0 : 0 ≤ e) (he1 : e ≤ 60) : Go.bits .and .i64 (shr .i64 x e) 1 = ((x.toNat / 2 ^ e.toNat % 2 : Nat) : Int) := by
  have r := shr_range x e h0 h1
  rw [bit01 _ r.1 r.2]
  unfold shr
  obtain ⟨n, rfl⟩ := Int.eq_ofNat_of_zero_le h0
  rw [show min e.toNat IntKind.i64.bits = e.toNat from Nat.min_eq_left (by have : IntKind.i64.bits = 64 := rfl; omega), Int.toNat_natCast]
  have e2 : ((2 : Int) ^ e.toNat) = ((2 ^ e.toNat : Nat) : Int) := by push_cast; rfl
  rw [e2]
  generalize 2 ^ e.toNat = m
  rw [Int.natCast_emod, Int.natCast_ediv]
  rfl
theorem bits3 (x y z : Nat) (hx : x = 0 ∨ x = 1) (hy : y = 0 ∨ y = 1) (hz : z = 0 ∨ z = 1) (ho : decide (z = 1) = (decide (x = 1) || decide (y = 1))) : ((z : Nat) : Int) = if wrap64 ((x : Int) + wrap64 (2 * (y : Int))) = 0 then 0 else 1 := by
  rcases hx with rfl | rfl <;> rcases hy with rfl | rfl <;> rcases hz with rfl | rfl <;> first | (exfalso; revert ho; decide) | decide +kernel
theorem or_digit (R B i : Int) (hR : 0 ≤ R ∧ R < 4611686018427387904) (hB : 0 ≤ B ∧ B < 4611686018427387904) (h0 : 0 ≤ i) (h1 : i ≤ 60) : Go.bits .and .i64 (shr .i64 (Go.bits .or .i64 R B) i) 1 = if col R B i = 0 then 0 else 1 := by
  have k62 : (2 : Nat) ^ 62 = 4611686018427387904 := by decide
  obtain ⟨a, rfl⟩ := Int.eq_ofNat_of_zero_le hR.1
  obtain ⟨b, rfl⟩ := Int.eq_ofNat_of_zero_le hB.1
  have hl := Nat.or_lt_two_pow (x := a) (y := b) (n := 62) (by omega) (by omega)
  unfold col
  rw [or_nat a b (by omega) (by omega), dig_div _ i (by omega) (by omega) h0 h1, dig_div _ i (by omega) (by omega) h0 h1, dig_div _ i (by omega) (by omega) h0 h1]
  simp only [Int.toNat_natCast]
  have ho : (a ||| b).testBit i.toNat = (a.testBit i.toNat || b.testBit i.toNat) := Nat.testBit_or ..
  rw [Nat.testBit_eq_decide_div_mod_eq, Nat.testBit_eq_decide_div_mod_eq, Nat.testBit_eq_decide_div_mod_eq] at ho
  clear hl k62 hR hB h0 h1
  have m1 := Nat.mod_two_eq_zero_or_one (a / 2 ^ i.toNat)
  have m2 := Nat.mod_two_eq_zero_or_one (b / 2 ^ i.toNat)
  have m3 := Nat.mod_two_eq_zero_or_one ((a ||| b) / 2 ^ i.toNat)
  exact bits3 _ _ _ m1 m2 m3 ho
theorem points_spec_l (P L R B g p : Int) (hP : 1 ≤ P ∧ P ≤ 8) (hR : 0 ≤ R ∧ R < 4611686018427387904) (hB : 0 ≤ B ∧ B < 4611686018427387904) (d : Nat) : ∀ (i : Int) (acc : List Int), 0 ≤ i → i + d = P → acc.length ≤ i →
    Ev (fun k => spec_l05Points.l0 k g p acc i P L R B) (acc ++ (seg i d).filter (okP P L R B g p)) := by
  induction d with
  | zero =>
    intro i acc h0 h1 h2
    refine evSucc (fun k => by rw [spec_l05Points.l0]) ?_
    exact evF (by omega) (evE (by simp [seg]) (evS acc))
  | succ d ih =>
    intro i acc h0 h1 h2
    refine evSucc (fun k => by rw [spec_l05Points.l0]) ?_
    rw [u64_at i h0 (by omega), or_digit R B i hR hB h0 (by omega), move_spec P L R B p i h0 (by omega), wrap_in (x := i + 1) (by omega) (by omega)]
    refine evT (by omega) (evT h0 ?_)
    have hq : okP P L R B g p i = ((col R B i == 0) && fairB P L (mvR R p i) (mvB B p i) g) := rfl
    by_cases c : col R B i = 0
    · refine evT (by rw [if_pos c]) (evG rfl (evB (fair_spec P L _ _ g (by omega)) ?_))
      cases hf : fairB P L (mvR R p i) (mvB B p i) g with
      | true =>
        refine evT rfl (evT (by omega) (evE ?_ (ih (i + 1) (acc ++ [i]) (by omega) (by omega) (by simp; omega))))
        simp [seg, hq, c, hf]
      | false =>
        refine evF (by simp) (evE ?_ (ih (i + 1) acc (by omega) (by omega) (by omega)))
        simp [seg, hq, c, hf]
    · refine evF (by rw [if_neg c]; decide) (evE ?_ (ih (i + 1) acc (by omega) (by omega) (by omega)))
      simp [seg, hq, c]
theorem points_spec (P L R B g p : Int) (hP : 1 ≤ P ∧ P ≤ 8) (hR : 0 ≤ R ∧ R < 4611686018427387904) (hB : 0 ≤ B ∧ B < 4611686018427387904) : Ev (fun k => spec_l05Points.f k P L R B g p) (ptsL P L R B g p) := by
  unfold spec_l05Points.f
  have := points_spec_l P L R B g p hP hR hB P.toNat 0 [] (by omega) (by omega) (by simp)
  simpa [ptsL] using this
theorem field_sets (P L R B : Int) (h : impl_IsField.f P L R B = some true) : (0 ≤ R ∧ R < 65536) ∧ (0 ≤ B ∧ B < 65536) := by
  obtain ⟨p0, p1⟩ := field_facts P L R B h
  obtain ⟨t0, t1, t2⟩ := trI_range P (by omega) (by omega)
  have hs := shl_one P (by omega) (by omega)
  have hp := pow_le P 8 (by omega)
  have hq := pow_pos' P
  have hf : wrap64 (shl .i64 1 P - 1) = ((2 ^ P.toNat : Nat) : Int) - 1 := by rw [hs, wrap_in (by omega) (by omega)]
  unfold impl_IsField.f impl_pairs.f at h
  simp only [within_eq, Option.bind_some] at h
  rw [hf, decide_eq_true (show 1 ≤ P ∧ P ≤ 8 from ⟨p0, p1⟩), show wrap64 (Int.tdiv (wrap64 (P * (wrap64 (P - 1)))) 2) = trI P from rfl, if_pos rfl, if_pos t0] at h
  split at h
  · rw [if_pos (show 0 ≤ P by omega)] at h
    split at h
    · rename_i hr
      split at h
      · rename_i hb
        have hr' := of_decide_eq_true hr
        have hb' := of_decide_eq_true hb
        omega
      · cases h
    · cases h
  · cases h
theorem codeF_zero (P L R B g p : Int) (b : Bool) (h : codeF P L R B g p b = 0) : b = true ∧ (0 ≤ g ∧ g ≤ 1) ∧ (0 ≤ p ∧ p ≤ 1) := by
  unfold codeF at h
  split at h
  · rename_i hb
    split at h
    · rename_i hc
      exact ⟨hb, hc.1, hc.2⟩
    · omega
  · omega
end Go.Proofs.Ytimoadhkkbedhaa.B
