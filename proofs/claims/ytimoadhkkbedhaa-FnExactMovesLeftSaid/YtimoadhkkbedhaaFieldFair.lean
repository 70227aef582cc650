/-
  Fairness of fields, the codes of fields, and the points that a player may colour: program and reference come to the same. No condition beyond those that are written.
-/
import Derived.Test.YtimoadhkkbedhaaQ4
import Derived.Test.YtimoadhkkbedhaaQ6
import Derived.Test.YtimoadhkkbedhaaQ5
import Derived.Test.YtimoadhkkbedhaaFirstTwo
import Derived.Test.YtimoadhkkbedhaaFieldSame
import Derived.Test.YtimoadhkkbedhaaChooseLaws
import Derived.Test.YtimoadhkkbedhaaOutPoints
namespace Go.Proofs.Ytimoadhkkbedhaa.B
open Go.RowKit Go.Proofs.Ytimoadhkkbedhaa.Q Go.Proofs.YtimoadhkkbedhaaW.PrintWords Go.Proofs.YtimoadhkkbedhaaW.PrintLast Go.Proofs.YtimoadhkkbedhaaW.PrintMore

/-- The colour of a point. -/
def col (R B i : Int) : Int := wrap64 ((Go.bits .and .i64 (shr .i64 R i) 1) + (wrap64 (2 * (Go.bits .and .i64 (shr .i64 B i) 1))))
theorem col_cases (R B i : Int) : col R B i = 0 ∨ col R B i = 1 ∨ col R B i = 2 ∨ col R B i = 3 := by
  unfold col
  rcases and_one (shr .i64 R i) with e | e <;> rcases and_one (shr .i64 B i) with g | g <;> rw [e, g] <;> decide +kernel
theorem colour_impl (P L R B i : Int) (h : 0 ≤ i) : impl_Field_colour.f P L R B i = some (col R B i) := by
  unfold impl_Field_colour.f col
  rw [if_pos h]
/-- Two points that spoil a field. -/
def badP (L R B g i j : Int) : Bool := jn L i j && (!(col R B i == 0) && (!(col R B j == 0) && ((col R B i == col R B j) == (g == 0))))
def fairIn (L R B g j : Int) : Nat → Int → Bool
  | 0, _ => true
  | d + 1, i => if badP L R B g i j = true then false else fairIn L R B g j d (i + 1)
def fairOut (L R B g : Int) : Nat → Int → Bool
  | 0, _ => true
  | d + 1, j => if fairIn L R B g j j.toNat 0 = true then fairOut L R B g d (j + 1) else false
/-- Fairness, plainly. -/
def fairB (P L R B g : Int) : Bool := fairOut L R B g P.toNat 0
section
variable (P L R B g : Int)
theorem fin_impl (j : Int) (hj : 0 ≤ j ∧ j < 16) (r : Bool) (hk : Ev (fun k => impl_Field_isFair.l0 k g P (wrap64 (j + 1)) P L R B) r) (d : Nat) :
    ∀ i : Int, 0 ≤ i → j = i + d → Ev (fun k => impl_Field_isFair.l1 k g j P j j i P L R B) (if fairIn L R B g j d i = true then r else false) := by
  induction d with
  | zero =>
    intro i h0 h1
    refine evSucc (fun k => by rw [impl_Field_isFair.l1]) ?_
    exact evF (by omega) (evE (by simp [fairIn]) hk)
  | succ d ih =>
    intro i h0 h1
    refine evSucc (fun k => by rw [impl_Field_isFair.l1]) ?_
    rw [colour_impl P L R B i h0, colour_impl P L R B j hj.1, joins_impl P L R B i j (by omega) (by omega) (by omega), wrap_in (x := i + 1) (by omega) (by omega)]
    have hx := ih (i + 1) (by omega) (by omega)
    refine evT (by omega) (evG rfl (evG rfl (evG rfl ?_)))
    have hs : fairIn L R B g j (d + 1) i = if badP L R B g i j = true then false else fairIn L R B g j d (i + 1) := rfl
    rw [hs]
    unfold badP
    cases c1 : jn L i j with
    | false => exact evF (by simp) (evE (by simp) hx)
    | true =>
      refine evT rfl ?_
      by_cases c2 : col R B i = 0
      · exact evT c2 (evE (by simp [c2]) hx)
      · refine evF c2 ?_
        by_cases c3 : col R B j = 0
        · exact evT c3 (evE (by simp [c3]) hx)
        · refine evF c3 ?_
          cases c4 : ((col R B i == col R B j) == (g == 0)) with
          | true => exact evT rfl (evE (by simp [c2, c3]) (evS false))
          | false => exact evF (by simp) (evE (by simp) hx)
theorem fout_impl (hP : P ≤ 16) (d : Nat) : ∀ j : Int, 0 ≤ j → P = j + d → Ev (fun k => impl_Field_isFair.l0 k g P j P L R B) (fairOut L R B g d j) := by
  induction d with
  | zero =>
    intro j h0 h1
    refine evSucc (fun k => by rw [impl_Field_isFair.l0]) ?_
    exact evF (by omega) (evS _)
  | succ d ih =>
    intro j h0 h1
    refine evSucc (fun k => by rw [impl_Field_isFair.l0]) ?_
    refine evT (by omega) ?_
    have hx := ih (j + 1) (by omega) (by omega)
    exact fin_impl P L R B g j (by omega) _ (by rw [wrap_in (x := j + 1) (by omega) (by omega)]; exact hx) j.toNat 0 (by omega) (by omega)
theorem fin_spec (j : Int) (hj : 0 ≤ j ∧ j < 16) (r : Bool) (hk : Ev (fun k => spec_l05Fair.l0 k g (wrap64 (j + 1)) P L R B) r) (d : Nat) :
    ∀ i : Int, 0 ≤ i → j = i + d → Ev (fun k => spec_l05Fair.l1 k g j i P L R B) (if fairIn L R B g j d i = true then r else false) := by
  induction d with
  | zero =>
    intro i h0 h1
    refine evSucc (fun k => by rw [spec_l05Fair.l1]) ?_
    exact evF (by omega) (evE (by simp [fairIn]) hk)
  | succ d ih =>
    intro i h0 h1
    refine evSucc (fun k => by rw [spec_l05Fair.l1]) ?_
    rw [joins_spec P L R B i j (by omega) (by omega), wrap_in (x := i + 1) (by omega) (by omega), u64_at i h0 (by omega), u64_at j hj.1 (by omega)]
    have e1 : wrap64 ((Go.bits .and .i64 (shr .i64 R i) 1) + (wrap64 (2 * (Go.bits .and .i64 (shr .i64 B i) 1)))) = col R B i := rfl
    have e2 : wrap64 ((Go.bits .and .i64 (shr .i64 R j) 1) + (wrap64 (2 * (Go.bits .and .i64 (shr .i64 B j) 1)))) = col R B j := rfl
    rw [e1, e2]
    have hx := ih (i + 1) (by omega) (by omega)
    refine evT (by omega) (evG rfl ?_)
    have hs : fairIn L R B g j (d + 1) i = if badP L R B g i j = true then false else fairIn L R B g j d (i + 1) := rfl
    rw [hs]
    unfold badP
    have k1 := col_cases R B i
    have k2 := col_cases R B j
    cases c1 : jn L i j with
    | false => exact evF (by simp) (evE (by simp) hx)
    | true =>
      refine evT rfl (evT h0 (evT hj.1 ?_))
      by_cases c2 : col R B i = 0
      · exact evF (by omega) (evE (by simp [c2]) hx)
      · refine evT (by omega) ?_
        by_cases c3 : col R B j = 0
        · exact evF (by omega) (evE (by simp [c3]) hx)
        · refine evT (by omega) ?_
          cases c4 : ((col R B i == col R B j) == (g == 0)) with
          | true => exact evT rfl (evE (by simp [c2, c3]) (evS false))
          | false => exact evF (by simp) (evE (by simp) hx)
theorem fout_spec (hP : P ≤ 16) (d : Nat) : ∀ j : Int, 0 ≤ j → P = j + d → Ev (fun k => spec_l05Fair.l0 k g j P L R B) (fairOut L R B g d j) := by
  induction d with
  | zero =>
    intro j h0 h1
    refine evSucc (fun k => by rw [spec_l05Fair.l0]) ?_
    exact evF (by omega) (evS _)
  | succ d ih =>
    intro j h0 h1
    refine evSucc (fun k => by rw [spec_l05Fair.l0]) ?_
    refine evT (by omega) ?_
    have hx := ih (j + 1) (by omega) (by omega)
    exact fin_spec P L R B g j (by omega) _ (by rw [wrap_in (x := j + 1) (by omega) (by omega)]; exact hx) j.toNat 0 (by omega) (by omega)
theorem fair_impl (hP : 1 ≤ P ∧ P ≤ 16) : Ev (fun k => impl_Field_isFair.f k P L R B g) (fairB P L R B g) := by
  unfold impl_Field_isFair.f fairB
  exact fout_impl P L R B g hP.2 P.toNat 0 (by omega) (by omega)
theorem fair_spec (hP : 1 ≤ P ∧ P ≤ 16) : Ev (fun k => spec_l05Fair.f k P L R B g) (fairB P L R B g) := by
  unfold spec_l05Fair.f fairB
  have h := fout_spec P L R B g hP.2 (P.toNat - 1) 1 (by omega) (by omega)
  rw [show P.toNat = (P.toNat - 1) + 1 by omega]
  exact h
end
/-- The code of a field, a game and a player. -/
def codeF (P L R B g p : Int) (b : Bool) : Int := if b = true then if (0 ≤ g ∧ g ≤ 1) ∧ (0 ≤ p ∧ p ≤ 1) then if fairB P L R B g = true then 0 else 5 else 2 else 1
theorem isBit_eq (x : Int) : impl_isBit.f x = some (decide (0 ≤ x ∧ x ≤ 1)) := by
  unfold impl_isBit.f
  rw [within_eq]
  rfl
theorem code_impl (P L R B g p : Int) (b : Bool) (h : impl_IsField.f P L R B = some b) : Ev (fun k => impl_fieldCode.f k P L R B g p) (codeF P L R B g p b) := by
  unfold impl_fieldCode.f codeF
  rw [h, isBit_eq, isBit_eq]
  refine evG rfl (evG rfl ?_)
  have hj : ∀ c x : Int, (c = 0 → Ev (fun k => impl_fieldCode.j0 k g c P L R B) x) → (c ≠ 0 → x = c) → Ev (fun k => impl_fieldCode.j0 k g c P L R B) x := by
    intro c x h1 h2
    by_cases e : c = 0
    · exact h1 e
    · rw [h2 e]
      refine evSucc (fun k => by rw [impl_fieldCode.j0]) ?_
      exact evF e (evS _)
  cases b with
  | false =>
    by_cases hg : 0 ≤ g ∧ g ≤ 1
    · refine evT (by simpa using hg) (evG rfl (evB (first_two _ _ _ _) (hj _ _ (fun e => absurd e (by simp)) (fun _ => by simp))))
    · refine evF (by simpa using hg) (evB (first_two _ _ _ _) (hj _ _ (fun e => absurd e (by simp)) (fun _ => by simp)))
  | true =>
    obtain ⟨p0, p1⟩ := field_facts P L R B h
    by_cases hg : 0 ≤ g ∧ g ≤ 1
    · refine evT (by simpa using hg) (evG rfl (evB (first_two _ _ _ _) ?_))
      by_cases hp : 0 ≤ p ∧ p ≤ 1
      · rw [decide_eq_true hp]
        refine evSucc (fun k => by rw [impl_fieldCode.j0]) ?_
        refine evT (by simp) (evB (fair_impl P L R B g (by omega)) (evB (first_one _ _) (evE ?_ (evS _))))
        simp [hg, hp]
      · rw [decide_eq_false hp]
        exact hj _ _ (fun e => absurd e (by simp)) (fun _ => by simp [hp])
    · refine evF (by simpa using hg) (evB (first_two _ _ _ _) (hj _ _ (fun e => absurd e (by simp)) (fun _ => by simp [hg])))
theorem code_spec (P L R B g p : Int) (b : Bool) (h : impl_IsField.f P L R B = some b) : Ev (fun k => spec_l05Player.f k P L R B g p) (codeF P L R B g p b) := by
  unfold spec_l05Player.f spec_l05Code.f codeF
  rw [isField_same, h, l01In_eq, l01In_eq]
  cases b with
  | false => exact evB (a := (1 : Int)) (evG rfl (evF (by simp) (evS _))) (evT rfl (evE (by simp) (evS _)))
  | true =>
    obtain ⟨p0, p1⟩ := field_facts P L R B h
    by_cases hg : 0 ≤ g ∧ g ≤ 1
    · refine evB (a := (if fairB P L R B g = true then 0 else 5 : Int)) (evG rfl (evT rfl (evG rfl (evT (by simpa using hg) (evB (fair_spec P L R B g (by omega)) ?_))))) ?_
      · cases fairB P L R B g with
        | true => exact evT rfl (evS _)
        | false => exact evF (by simp) (evS _)
      · refine evF (by split <;> decide) (evG rfl ?_)
        by_cases hp : 0 ≤ p ∧ p ≤ 1
        · exact evT (by simpa using hp) (evE (by simp [hg, hp]) (evS _))
        · exact evF (by simpa using hp) (evE (by simp [hp]) (evS _))
    · refine evB (a := (2 : Int)) (evG rfl (evT rfl (evG rfl (evF (by simpa using hg) (evS _))))) (evF (by decide) (evG rfl ?_))
      by_cases hp : 0 ≤ p ∧ p ≤ 1
      · exact evT (by simpa using hp) (evE (by simp [hg]) (evS _))
      · exact evF (by simpa using hp) (evE (by simp [hp]) (evS _))
end Go.Proofs.Ytimoadhkkbedhaa.B
