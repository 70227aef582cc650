/-
  Plain: the text of a field, letter by letter, as the reference writes it. Fields of 1 to 8 points.
-/
import Derived.Test.YtbojknoehdbphaaDoorBytes
import Derived.Test.YtbojknoehdbphaaDoorTextSame
namespace Go.Proofs.YtbojknoehdbphaaDoor.B
open Go.RowKit Go.Proofs.YtbojknoehdbphaaDoor.Q Go.Proofs.YtbojknoehdbphaaDoorW.PrintWords Go.Proofs.YtbojknoehdbphaaDoorW.PrintLast Go.Proofs.YtbojknoehdbphaaDoorW.PrintMore

def chC (a b i : Nat) : UInt8 := if a.testBit i = true then 114 else if b.testBit i = true then 98 else 46
def chL (L : Int) (i j : Nat) : UInt8 := if jn L i j = true then 49 else 48
def segC (a b : Nat) : Nat → Nat → List UInt8
  | 0, _ => []
  | d + 1, i => chC a b i :: segC a b d (i + 1)
def segL (L : Int) (j : Nat) : Nat → Nat → List UInt8
  | 0, _ => []
  | d + 1, i => chL L i j :: segL L j d (i + 1)
def tailT (L : Int) : Nat → Nat → List UInt8
  | 0, _ => []
  | d + 1, j => 44 :: (segL L j j 0 ++ tailT L d (j + 1))
def textT (p : Nat) (L : Int) (a b : Nat) : List UInt8 := segC a b p 0 ++ tailT L (p - 1) 1
theorem segC_len (a b : Nat) : ∀ d i, (segC a b d i).length = d
  | 0, _ => rfl
  | d + 1, i => by simp [segC, segC_len]
theorem segL_len (L : Int) (j : Nat) : ∀ d i, (segL L j d i).length = d
  | 0, _ => rfl
  | d + 1, i => by simp [segL, segL_len]
section
variable {P L : Int} {a b : Nat}
theorem form2 (hP : P ≤ 8) (j : Nat) (hj : 1 ≤ j ∧ (j : Int) < P) (R : ByteArray) (d : Nat) : ∀ (i : Nat) (acc : List UInt8), i + d = j → acc.length + d ≤ 1000 →
    Ev (fun k => spec_l05Text.l1 k (BA (acc ++ segL L j d i)) ((j + 1 : Nat) : Int) P L a b) R → Ev (fun k => spec_l05Text.l2 k (BA acc) j i P L a b) R := by
  induction d with
  | zero =>
    intro i acc hi hs hE
    refine evSucc (fun k => by rw [spec_l05Text.l2]) ?_
    refine evF (by omega) ?_
    rw [wrap_in (x := (j : Int) + 1) (by omega) (by omega), show (j : Int) + 1 = ((j + 1 : Nat) : Int) by omega]
    simpa [segL] using hE
  | succ d ih =>
    intro i acc hi hs hE
    have hij : (i : Int) < (j : Int) := by omega
    have hw : wrap64 ((i : Int) + 1) = ((i + 1 : Nat) : Int) := by rw [wrap_in (by omega) (by omega)]; omega
    have hsz : (BA acc).size + 1 ≤ 9223372036854775807 := by rw [BA_size]; omega
    rw [segL] at hE
    refine evSucc (fun k => by rw [spec_l05Text.l2, hw]) ?_
    refine evT hij (evG (joins_spec P L a b i j (by omega) (by omega)) ?_)
    cases c : jn L i j with
    | true =>
      have e : chL L i j = 49 := if_pos c
      rw [e] at hE
      refine evT rfl (evT hsz ?_)
      rw [BA_push]
      exact ih (i + 1) (acc ++ [49]) (by omega) (by simp; omega) (by simpa using hE)
    | false =>
      have e : chL L i j = 48 := if_neg (by rw [c]; decide)
      rw [e] at hE
      refine evF (by decide) (evT hsz ?_)
      rw [BA_push]
      exact ih (i + 1) (acc ++ [48]) (by omega) (by simp; omega) (by simpa using hE)
theorem form1 (hP : P ≤ 8) (d : Nat) : ∀ (j : Nat) (acc : List UInt8), 1 ≤ j → (j : Int) + d = P → acc.length + 10 * d ≤ 900 → Ev (fun k => spec_l05Text.l1 k (BA acc) j P L a b) (BA (acc ++ tailT L d j)) := by
  induction d with
  | zero =>
    intro j acc h1 hj hs
    refine evSucc (fun k => by rw [spec_l05Text.l1]) ?_
    refine evF (by omega) (evE ?_ (evS _))
    simp [tailT]
  | succ d ih =>
    intro j acc h1 hj hs
    have hsz : (BA acc).size + 1 ≤ 9223372036854775807 := by rw [BA_size]; omega
    refine evSucc (fun k => by rw [spec_l05Text.l1]) ?_
    refine evT (by omega) (evT hsz ?_)
    rw [BA_push]
    refine form2 hP j ⟨h1, by omega⟩ _ j 0 (acc ++ [44]) (by omega) (by simp; omega) ?_
    have := ih (j + 1) (acc ++ [44] ++ segL L j j 0) (by omega) (by omega) (by simp [segL_len]; omega)
    rw [tailT]
    simpa using this
theorem form0 (hP : 1 ≤ P ∧ P ≤ 8) (h2 : Two P.toNat a b) (d : Nat) : ∀ (i : Nat) (acc : List UInt8), (i : Int) + d = P → acc.length + d ≤ 100 → Ev (fun k => spec_l05Text.l0 k (BA acc) i P L a b) (BA (acc ++ segC a b d i ++ tailT L (P.toNat - 1) 1)) := by
  have hsm := h2.small (by omega)
  induction d with
  | zero =>
    intro i acc hi hs
    refine evSucc (fun k => by rw [spec_l05Text.l0]) ?_
    refine evF (by omega) ?_
    have := form1 (L := L) (a := a) (b := b) hP.2 (P.toNat - 1) 1 acc (by omega) (by omega) (by omega)
    simpa [segC] using this
  | succ d ih =>
    intro i acc hi hs
    have hi0 : (0 : Int) ≤ (i : Int) := Int.natCast_nonneg _
    have hi1 : (i : Int) ≤ 60 := by clear hsm; omega
    have ha := dig_bit a i hsm.1 hi0 hi1
    have hb := dig_bit b i hsm.2 hi0 hi1
    clear hsm
    rw [show ((i : Nat) : Int).toNat = i by omega] at ha hb
    have hu : IntKind.u64.wrap (i : Int) = i := u64_at _ (by omega) (by omega)
    have hw : wrap64 ((i : Int) + 1) = ((i + 1 : Nat) : Int) := by rw [wrap_in (by omega) (by omega)]; omega
    have hsz : (BA acc).size + 1 ≤ 9223372036854775807 := by rw [BA_size]; omega
    have next := ih (i + 1) (acc ++ [chC a b i]) (by omega) (by simp; omega)
    rw [segC]
    rw [show acc ++ [chC a b i] ++ segC a b d (i + 1) = acc ++ chC a b i :: segC a b d (i + 1) by simp] at next
    refine evSucc (fun k => by rw [spec_l05Text.l0, hu, hw]) ?_
    refine evT (by omega) (evT (by omega) ?_)
    rw [ha, hb]
    cases ta : a.testBit i with
    | true =>
      have e : chC a b i = 114 := if_pos ta
      rw [e] at next ⊢
      refine evT (by rfl) (evT hsz ?_)
      rw [BA_push]
      exact next
    | false =>
      refine evF (by decide) ?_
      cases tb : b.testBit i with
      | true =>
        have e : chC a b i = 98 := by unfold chC; rw [ta, tb]; rfl
        rw [e] at next ⊢
        refine evT (by rfl) (evT hsz ?_)
        rw [BA_push]
        exact next
      | false =>
        have e : chC a b i = 46 := by unfold chC; rw [ta, tb]; rfl
        rw [e] at next ⊢
        refine evF (by decide) (evT hsz ?_)
        rw [BA_push]
        exact next
theorem form_spec (hP : 1 ≤ P ∧ P ≤ 8) (h2 : Two P.toNat a b) : Ev (fun k => spec_l05Text.f k P L a b) (BA (textT P.toNat L a b)) := by
  unfold spec_l05Text.f
  show Ev (fun k => spec_l05Text.l0 k (BA []) 0 P L a b) _
  have := form0 (L := L) hP h2 P.toNat 0 [] (by omega) (by simp; omega)
  simpa [textT] using this
end
theorem tailT_len (L : Int) : ∀ d j, j + d ≤ 8 → (tailT L d j).length ≤ 9 * d
  | 0, _, _ => by simp [tailT]
  | d + 1, j, h => by
    have := tailT_len L d (j + 1) (by omega)
    simp [tailT, segL_len]
    omega
theorem textT_len (p : Nat) (L : Int) (a b : Nat) (h : p ≤ 8) : (textT p L a b).length ≤ 80 := by
  have := tailT_len L (p - 1) 1
  unfold textT
  rw [List.length_append, segC_len]
  by_cases h0 : p = 0
  · subst h0
    simp [tailT]
  · have := this (by omega)
    omega
/-- The field's text by the program too. -/
theorem form_impl {p L a b : Nat} (hf : impl_IsField.f (p : Int) (L : Int) (a : Int) (b : Int) = some true) (hP : 1 ≤ p ∧ p ≤ 8) (h2 : Two p a b) : Ev (fun k => impl_FieldText.f k (p : Int) (L : Int) (a : Int) (b : Int)) (BA (textT p L a b), 0) := by
  obtain ⟨t, c, h1, h3⟩ := both_text (p : Int) (L : Int) (a : Int) (b : Int)
  have hE : Ev (fun k => spec_FieldText.f k (p : Int) (L : Int) (a : Int) (b : Int)) (BA (textT p L a b), 0) := by
    unfold spec_FieldText.f
    rw [isField_same]
    refine evG hf (evT rfl (evB (form_spec (P := (p : Int)) (L := (L : Int)) (by omega) (by simpa using h2)) ?_))
    simpa using evS _
  have e := ev_uniq h1 hE
  simp only [Prod.mk.injEq] at e
  obtain ⟨rfl, rfl⟩ := e
  exact h3
end Go.Proofs.YtbojknoehdbphaaDoor.B
