/-
  Plain: texts as lists of letters; their parts between a letter, as the reference cuts them and as strings.Split does. Texts of at most 1,000,000,000 letters.
  The texts of fields: program and reference write the same text and code. No condition.
  Plain: the text of a field, letter by letter, as the reference writes it. Fields of 1 to 8 points.
  Plain: what the reference reads out of a text: whatever the text, a field of which it then asks the text; and of a field's text the field. Texts of at most 1,000,000,000 letters.
  Plain: of a field's text both read the field; of another text neither does. Texts of at most 1,048,576 letters.
-/
import Derived.Test.YtlmohkbimnhecaaGreatDoorSplitOne
import Derived.Test.YtlmohkbimnhecaaGreatDoorBase
import Derived.Test.YtlmohkbimnhecaaGreatDoorQ7
import Derived.Test.YtlmohkbimnhecaaGreatDoorField
import Derived.Test.YtlmohkbimnhecaaGreatDoorQ8
import Derived.Test.YtlmohkbimnhecaaGreatDoorOutParse

namespace Go.Proofs.YtlmohkbimnhecaaGreatDoor.B
open Go.RowKit Go.Proofs.YtlmohkbimnhecaaGreatDoor.Q Go.Proofs.YtlmohkbimnhecaaGreatDoorW.PrintWords Go.Proofs.YtlmohkbimnhecaaGreatDoorW.PrintLast Go.Proofs.YtlmohkbimnhecaaGreatDoorW.PrintMore

theorem ev_uniq {α : Type} {f : Nat → Option α} {a b : α} (h1 : Ev f a) (h2 : Ev f b) : a = b := by
  obtain ⟨k1, h1⟩ := h1
  obtain ⟨k2, h2⟩ := h2
  have e1 := h1 (max k1 k2) (by omega)
  have e2 := h2 (max k1 k2) (by omega)
  rw [e1] at e2
  exact Option.some.inj e2
theorem BA_data (l : List UInt8) : (BA l).data.toList = l := by simp [BA]
theorem BA_size (l : List UInt8) : (BA l).size = l.length := by simp [BA, ByteArray.size]
theorem BA_toList (l : List UInt8) : (BA l).toList = l := by rw [Lib.toList_data, BA_data]
theorem BA_eta (s : ByteArray) : BA s.data.toList = s := by
  obtain ⟨d⟩ := s
  simp [BA]
theorem ba_ext {a b : ByteArray} (h : a.data.toList = b.data.toList) : a = b := by rw [← BA_eta a, ← BA_eta b, h]
theorem BA_append (a b : List UInt8) : BA a ++ BA b = BA (a ++ b) := by
  apply ba_ext
  rw [ByteArray.data_append]
  simp [BA]
theorem BA_push (a : List UInt8) (c : UInt8) : BA a ++ (⟨#[c]⟩ : ByteArray) = BA (a ++ [c]) := BA_append a [c]
theorem BA_extract (l : List UInt8) (i j : Nat) : (BA l).extract i j = BA ((l.drop i).take (j - i)) := by
  apply ba_ext
  rw [ByteArray.data_extract, BA_data]
  simp [BA, List.take_drop]
theorem BA_tail (l : List UInt8) (i : Nat) : (BA l).extract i l.length = BA (l.drop i) := by
  rw [BA_extract, List.take_of_length_le (by simp)]
theorem bt_BA (l : List UInt8) (i : Int) (h0 : 0 ≤ i) (h1 : i < l.length) : bt (BA l) i = ((l[i.toNat]'(by omega)).toNat : Int) := by
  unfold bt
  have h : i.toNat < (BA l).size := by rw [BA_size]; omega
  rw [dif_pos h]
  simp [BA]
  rfl
/-- The parts between letters c; cur stands ahead. -/
def splitQ (c : UInt8) : List UInt8 → List UInt8 → List (List UInt8)
  | cur, [] => [cur]
  | cur, b :: r => if b = c then cur :: splitQ c [] r else splitQ c (cur ++ [b]) r
theorem splitQ_no (c : UInt8) : ∀ (l cur : List UInt8), c ∉ l → splitQ c cur l = [cur ++ l]
  | [], cur, _ => by simp [splitQ]
  | b :: r, cur, h => by
    have hb : b ≠ c := fun e => h (by simp [e])
    rw [splitQ, if_neg hb, splitQ_no c r _ (fun hr => h (by simp [hr]))]
    simp
theorem splitQ_hit (c : UInt8) : ∀ (l cur r : List UInt8), c ∉ l → splitQ c cur (l ++ c :: r) = (cur ++ l) :: splitQ c [] r
  | [], cur, r, _ => by simp [splitQ]
  | b :: l, cur, r, h => by
    have hb : b ≠ c := fun e => h (by simp [e])
    rw [List.cons_append, splitQ, if_neg hb, splitQ_hit c l _ r (fun hr => h (by simp [hr]))]
    simp
theorem splitQ_len (c : UInt8) : ∀ (l cur : List UInt8), (splitQ c cur l).length = l.count c + 1
  | [], cur => by simp [splitQ]
  | b :: r, cur => by
    rw [splitQ]
    split
    · rename_i e
      subst e
      rw [List.length_cons, splitQ_len, List.count_cons_self]
    · rename_i e
      rw [splitQ_len, List.count_cons_of_ne (by simpa using e)]
theorem splitQ_ne (c : UInt8) (l cur : List UInt8) : splitQ c cur l ≠ [] := by
  intro h
  have := splitQ_len c l cur
  rw [h] at this
  simp at this
/-- strings.Split's parts are these. -/
theorem parts_eq (c : UInt8) (l : List UInt8) : partsS c (BA l) = (splitQ c [] l).map BA := by
  have key : ∀ (n : Nat) (l : List UInt8), l.count c = n → Lib.splitB ⟨#[c]⟩ 0 n (BA l) = (splitQ c [] l).map BA := by
    intro n
    induction n with
    | zero =>
      intro l h
      have hn : c ∉ l := List.count_eq_zero.1 h
      rw [Lib.splitB_zero, splitQ_no c l [] hn]
      simp
    | succ n ih =>
      intro l h
      have hm : c ∈ l := List.count_pos_iff.1 (by omega)
      obtain ⟨xs0, bs, rfl, hn⟩ := List.eq_append_cons_of_mem hm
      have hi : Lib.indexB (BA (xs0 ++ c :: bs)) ⟨#[c]⟩ = xs0.length := by
        show Lib.index (BA (xs0 ++ c :: bs)).data.toList [c] = xs0.length
        rw [BA_data, Lib.index_one]
        have : ∀ xs0 : List UInt8, c ∉ xs0 → Lib.indexByte (xs0 ++ c :: bs) c = xs0.length := by
          intro xs0
          induction xs0 with
          | nil => intro _; simp [Lib.indexByte]
          | cons x xs ihx =>
            intro hx
            have h1 : ¬ x = c := fun e => hx (by simp [e])
            have h2 := ihx (fun hh => hx (by simp [hh]))
            rw [List.cons_append, Lib.indexByte, if_neg (by simpa using h1), h2, if_neg (by simp)]
            simp
        exact this xs0 hn
      rw [Lib.splitB_hit _ _ _ _ _ hi, splitQ_hit c xs0 [] bs hn, List.map_cons, BA_extract]
      have e1 : (BA (xs0 ++ c :: bs)).extract (xs0.length + (⟨#[c]⟩ : ByteArray).size) (BA (xs0 ++ c :: bs)).size = BA bs := by
        rw [BA_size, BA_tail]
        congr 1
        show (xs0 ++ c :: bs).drop (xs0.length + 1) = bs
        simp
      rw [e1, ih bs (by simpa [List.count_append, List.count_eq_zero.2 hn] using h)]
      simp
  unfold partsS
  have hc : Lib.countB (BA l) ⟨#[c]⟩ = l.count c := by
    show Lib.count (BA l).data.toList [c] = _
    rw [BA_data, Lib.count_one]
  rw [hc]
  exact key _ l rfl
/-- And the reference's. -/
theorem split_l (c : UInt8) (l : List UInt8) (hl : l.length ≤ 1000000000) : ∀ (rest : List UInt8) (i at_ : Nat) (out : List ByteArray), l.drop i = rest → at_ ≤ i → i ≤ l.length → out.length ≤ i →
    Ev (fun k => spec_l01Split.l0 k (BA l) (c.toNat : Int) out at_ i) (out ++ (splitQ c ((l.drop at_).take (i - at_)) rest).map BA)
  | [], i, at_, out, hd, h1, h2, h3 => by
    have hi : i = l.length := by
      have := congrArg List.length hd
      simp at this
      omega
    refine evSucc (fun k => by rw [spec_l01Split.l0]) ?_
    rw [BA_size]
    refine evF (by omega) (evT (by omega) (evT (by omega) (evT (by omega) (evE ?_ (evS _)))))
    rw [splitQ, show ((at_ : Nat) : Int).toNat = at_ by omega, BA_extract, hi]
    rfl
  | b :: r, i, at_, out, hd, h1, h2, h3 => by
    have hi : i < l.length := by
      have := congrArg List.length hd
      simp at this
      omega
    have hb : l[i] = b := by
      have := List.drop_eq_getElem_cons hi
      rw [hd] at this
      exact (List.cons.inj this).1.symm
    have hr : l.drop (i + 1) = r := by
      have := List.drop_eq_getElem_cons hi
      rw [hd] at this
      exact (List.cons.inj this).2.symm
    have hbt : bt (BA l) (i : Int) = (b.toNat : Int) := by
      rw [bt_BA l i (by omega) (by omega), ← hb]
      simp
    have hw : wrap64 ((i : Int) + 1) = ((i + 1 : Nat) : Int) := by rw [wrap_in (by omega) (by omega)]; omega
    refine evSucc (fun k => by rw [spec_l01Split.l0]) ?_
    rw [BA_size, hbt, hw]
    refine evT (by omega) (evT (by omega) ?_)
    by_cases e : b = c
    · subst e
      refine evT rfl (evT (by omega) (evT (by omega) (evT (by omega) (evT (by omega) ?_))))
      rw [show ((at_ : Nat) : Int).toNat = at_ by omega, show ((i : Nat) : Int).toNat = i by omega, BA_extract]
      have := split_l b l hl r (i + 1) (i + 1) (out ++ [BA ((l.drop at_).take (i - at_))]) hr (Nat.le_refl _) (by omega) (by simp; omega)
      refine evE ?_ this
      rw [splitQ, if_pos rfl]
      simp
    · refine evF (fun h => e (UInt8.toNat_inj.1 (by omega))) ?_
      have := split_l c l hl r (i + 1) at_ out hr (by omega) (by omega) (by omega)
      refine evE ?_ this
      rw [splitQ, if_neg e]
      congr 2
      rw [show i + 1 - at_ = (i - at_) + 1 by omega, List.take_add_one]
      congr 1
      rw [List.getElem?_drop, show at_ + (i - at_) = i by omega, List.getElem?_eq_getElem hi, hb]
      rfl
theorem split_spec (c : UInt8) (l : List UInt8) (hl : l.length ≤ 1000000000) : Ev (fun k => spec_l01Split.f k (BA l) (c.toNat : Int)) ((splitQ c [] l).map BA) := by
  unfold spec_l01Split.f
  have := split_l c l hl l 0 0 [] rfl (Nat.le_refl _) (by omega) (by simp)
  simpa using this
end Go.Proofs.YtlmohkbimnhecaaGreatDoor.B

namespace Go.Proofs.YtlmohkbimnhecaaGreatDoor.B
open Go.RowKit Go.Proofs.YtlmohkbimnhecaaGreatDoor.Q Go.Proofs.YtlmohkbimnhecaaGreatDoorW.PrintWords Go.Proofs.YtlmohkbimnhecaaGreatDoorW.PrintLast Go.Proofs.YtlmohkbimnhecaaGreatDoorW.PrintMore

theorem size_cat (x y : ByteArray) : (x ++ y).size = x.size + y.size := ByteArray.size_append
section
variable {P L : Int} {a b : Nat}
theorem text2 (hP : P ≤ 8) (j : Int) (hj : 1 ≤ j ∧ j < P) (e : Nat) (hnext : ∀ acc : ByteArray, acc.size ≤ e + j.toNat → ∃ t, Ev (fun k => spec_l05Text.l1 k acc (wrap64 (j + 1)) P L a b) t ∧ Ev (fun k => impl_FieldText.l1 k acc (wrap64 (j + 1)) P L a b) (t, 0)) (he : e ≤ 1000) (d : Nat) :
    ∀ (i : Int) (acc : ByteArray), 0 ≤ i → i + d = j → acc.size + d ≤ e + j.toNat → ∃ t, Ev (fun k => spec_l05Text.l2 k acc j i P L a b) t ∧ Ev (fun k => impl_FieldText.l2 k acc j j i P L a b) (t, 0) := by
  induction d with
  | zero =>
    intro i acc h0 hi hs
    obtain ⟨t, h1, h2⟩ := hnext acc (by omega)
    refine ⟨t, ?_, ?_⟩
    · refine evSucc (fun k => by rw [spec_l05Text.l2]) ?_
      exact evF (by omega) h1
    · refine evSucc (fun k => by rw [impl_FieldText.l2]) ?_
      exact evF (by omega) h2
  | succ d ih =>
    intro i acc h0 hi hs
    cases c : jn L i j with
    | true =>
      obtain ⟨t, h1, h2⟩ := ih (i + 1) (acc ++ ⟨#[49]⟩) (by omega) (by omega) (by rw [size_cat]; show acc.size + 1 + d ≤ _; omega)
      refine ⟨t, ?_, ?_⟩
      · refine evSucc (fun k => by rw [spec_l05Text.l2, wrap_in (x := i + 1) (by omega) (by omega)]) ?_
        refine evT (by omega) (evG (by rw [joins_spec P L a b i j (by omega) (by omega), c]) (evT rfl (evT (by omega) h1)))
      · refine evSucc (fun k => by rw [impl_FieldText.l2, wrap_in (x := i + 1) (by omega) (by omega)]) ?_
        refine evT (by omega) (evG (by rw [joins_impl P L a b i j (by omega) (by omega) (by omega), c]) (evG (o := impl_bit.f true) rfl (evG (o := impl_decimal.f 1) rfl (evT ?_ h2))))
        show acc.size + 1 ≤ _
        omega
    | false =>
      obtain ⟨t, h1, h2⟩ := ih (i + 1) (acc ++ ⟨#[48]⟩) (by omega) (by omega) (by rw [size_cat]; show acc.size + 1 + d ≤ _; omega)
      refine ⟨t, ?_, ?_⟩
      · refine evSucc (fun k => by rw [spec_l05Text.l2, wrap_in (x := i + 1) (by omega) (by omega)]) ?_
        refine evT (by omega) (evG (by rw [joins_spec P L a b i j (by omega) (by omega), c]) (evF (by decide) (evT (by omega) h1)))
      · refine evSucc (fun k => by rw [impl_FieldText.l2, wrap_in (x := i + 1) (by omega) (by omega)]) ?_
        refine evT (by omega) (evG (by rw [joins_impl P L a b i j (by omega) (by omega) (by omega), c]) (evG (o := impl_bit.f false) rfl (evG (o := impl_decimal.f 0) rfl (evT ?_ h2))))
        show acc.size + 1 ≤ _
        omega
theorem text1 (hP : P ≤ 8) (d : Nat) : ∀ (j : Int) (acc : ByteArray), 1 ≤ j → j + d = P → acc.size + 10 * d ≤ 900 → ∃ t, Ev (fun k => spec_l05Text.l1 k acc j P L a b) t ∧ Ev (fun k => impl_FieldText.l1 k acc j P L a b) (t, 0) := by
  induction d with
  | zero =>
    intro j acc h0 hj hs
    refine ⟨acc, ?_, ?_⟩
    · refine evSucc (fun k => by rw [spec_l05Text.l1]) ?_
      exact evF (by omega) (evS _)
    · refine evSucc (fun k => by rw [impl_FieldText.l1]) ?_
      exact evF (by omega) (evS _)
  | succ d ih =>
    intro j acc h0 hj hs
    have hz : (acc ++ (⟨#[44]⟩ : ByteArray)).size = acc.size + 1 := size_cat _ _
    obtain ⟨t, h1, h2⟩ := text2 (P := P) (L := L) (a := a) (b := b) hP j (by omega) (acc.size + 1) (fun acc' hs' => by
      rw [wrap_in (x := j + 1) (by omega) (by omega)]
      exact ih (j + 1) acc' (by omega) (by omega) (by omega)) (by omega) j.toNat 0 (acc ++ ⟨#[44]⟩) (by omega) (by omega) (by omega)
    refine ⟨t, ?_, ?_⟩
    · refine evSucc (fun k => by rw [spec_l05Text.l1]) ?_
      exact evT (by omega) (evT (by omega) h1)
    · refine evSucc (fun k => by rw [impl_FieldText.l1]) ?_
      exact evT (by omega) (evT (by omega) h2)
theorem text0 (hP : 1 ≤ P ∧ P ≤ 8) (h2 : Two P.toNat a b) (d : Nat) : ∀ (i : Int) (acc : ByteArray), 0 ≤ i → i + d = P → acc.size + d ≤ 100 → ∃ t, Ev (fun k => spec_l05Text.l0 k acc i P L a b) t ∧ Ev (fun k => impl_FieldText.l0 k acc P i P L a b) (t, 0) := by
  have hsm := h2.small (by omega)
  induction d with
  | zero =>
    intro i acc h0 hi hs
    obtain ⟨t, h1, h2⟩ := text1 (P := P) (L := L) (a := a) (b := b) hP.2 (P - 1).toNat 1 acc (by omega) (by omega) (by omega)
    refine ⟨t, ?_, ?_⟩
    · refine evSucc (fun k => by rw [spec_l05Text.l0]) ?_
      exact evF (by omega) h1
    · refine evSucc (fun k => by rw [impl_FieldText.l0]) ?_
      exact evF (by omega) h2
  | succ d ih =>
    intro i acc h0 hi hs
    have hc := col_dg a b i hsm.1 hsm.2 h0 (by omega)
    have ha := dig_bit a i hsm.1 h0 (by omega)
    have hb := dig_bit b i hsm.2 h0 (by omega)
    have h3 := h2.2.2 i.toNat
    unfold dg at hc h3
    have hu : IntKind.u64.wrap i = i := u64_at i h0 (by omega)
    have hone : ∀ c : UInt8, (acc ++ (⟨#[c]⟩ : ByteArray)).size = acc.size + 1 := fun c => size_cat _ _
    have key : ∀ (c : UInt8), (Go.Utf8.encode (bt (⟨#[46, 114, 98]⟩ : ByteArray) (col a b i))) = ⟨#[c]⟩ → 0 ≤ col a b i → col a b i < 3 →
        (∀ t, Ev (fun k => spec_l05Text.l0 k (acc ++ ⟨#[c]⟩) (i + 1) P L a b) t → Ev (fun k => spec_l05Text.l0 k acc i P L a b) t) →
        ∃ t, Ev (fun k => spec_l05Text.l0 k acc i P L a b) t ∧ Ev (fun k => impl_FieldText.l0 k acc P i P L a b) (t, 0) := by
      intro c e1 e2 e3 e4
      obtain ⟨t, h1, h2⟩ := ih (i + 1) (acc ++ ⟨#[c]⟩) (by omega) (by omega) (by rw [hone]; omega)
      refine ⟨t, e4 t h1, ?_⟩
      refine evSucc (fun k => by rw [impl_FieldText.l0, wrap_in (x := i + 1) (by omega) (by omega)]) ?_
      refine evT (by omega) (evG (colour_impl P L a b i h0) (evT e2 (evT e3 ?_)))
      rw [e1]
      refine evT ?_ h2
      show acc.size + 1 ≤ _
      omega
    cases ta : a.testBit i.toNat with
    | true =>
      cases tb : b.testBit i.toNat with
      | true => exact absurd (by rw [ta, tb]; rfl) h3
      | false =>
        rw [ta, tb] at hc
        rw [ta] at ha
        refine key 114 (by rw [hc]; decide +kernel) (by rw [hc]; decide) (by rw [hc]; decide) (fun t ht => ?_)
        refine evSucc (fun k => by rw [spec_l05Text.l0, wrap_in (x := i + 1) (by omega) (by omega), hu]) ?_
        exact evT (by omega) (evT h0 (evT (by rw [ha]; rfl) (evT (by omega) ht)))
    | false =>
      rw [ta] at ha
      cases tb : b.testBit i.toNat with
      | true =>
        rw [ta, tb] at hc
        rw [tb] at hb
        refine key 98 (by rw [hc]; decide +kernel) (by rw [hc]; decide) (by rw [hc]; decide) (fun t ht => ?_)
        refine evSucc (fun k => by rw [spec_l05Text.l0, wrap_in (x := i + 1) (by omega) (by omega), hu]) ?_
        exact evT (by omega) (evT h0 (evF (by rw [ha]; decide) (evT (by rw [hb]; rfl) (evT (by omega) ht))))
      | false =>
        rw [ta, tb] at hc
        rw [tb] at hb
        refine key 46 (by rw [hc]; decide +kernel) (by rw [hc]; decide) (by rw [hc]; decide) (fun t ht => ?_)
        refine evSucc (fun k => by rw [spec_l05Text.l0, wrap_in (x := i + 1) (by omega) (by omega), hu]) ?_
        exact evT (by omega) (evT h0 (evF (by rw [ha]; decide) (evF (by rw [hb]; decide) (evT (by omega) ht))))
end
theorem both_text (P L R B : Int) : ∃ (t : ByteArray) (c : Int), Ev (fun k => spec_FieldText.f k P L R B) (t, c) ∧ Ev (fun k => impl_FieldText.f k P L R B) (t, c) := by
  unfold spec_FieldText.f impl_FieldText.f
  rw [isField_same]
  obtain ⟨b, hb⟩ := field_total P L R B
  rw [hb]
  cases b with
  | false => exact ⟨⟨#[]⟩, 1, evG rfl (evF (by decide) (evS _)), evG rfl (evF (by decide) (evS _))⟩
  | true =>
    have hP := field_facts P L R B hb
    obtain ⟨m, n, rfl, rfl, h2⟩ := field_two P L R B hb
    obtain ⟨t, h1, h3⟩ := text0 (L := L) hP h2 P.toNat 0 ⟨#[]⟩ (by omega) (by omega) (by show 0 + P.toNat ≤ 100; omega)
    exact ⟨t, 0, evG rfl (evT rfl (evB (by unfold spec_l05Text.f; exact h1) (evS _))), evG rfl (evT rfl h3)⟩
end Go.Proofs.YtlmohkbimnhecaaGreatDoor.B

namespace Go.Proofs.YtlmohkbimnhecaaGreatDoor.B
open Go.RowKit Go.Proofs.YtlmohkbimnhecaaGreatDoor.Q Go.Proofs.YtlmohkbimnhecaaGreatDoorW.PrintWords Go.Proofs.YtlmohkbimnhecaaGreatDoorW.PrintLast Go.Proofs.YtlmohkbimnhecaaGreatDoorW.PrintMore

def chC (a b i : Nat) : UInt8 := if a.testBit i = true then 114 else if b.testBit i = true then 98 else 46
def chL (L : Int) (i j : Nat) : UInt8 := if jn L i j = true then 49 else 48
def segC (a b : Nat) : Nat → Nat → List UInt8
  | 0, _ => []
  | d + 1, i => chC a b i :: segC a b d (i + 1)
def segL (L : Int) (j : Nat) : Nat → Nat → List UInt8
  | 0, _ => []
  | d + 1, i => chL L i j :: segL L j d (i + 1)
def tailT (L : Int) : Nat → Nat → List UInt8
  | 0, _ => []
  | d + 1, j => 44 :: (segL L j j 0 ++ tailT L d (j + 1))
def textT (p : Nat) (L : Int) (a b : Nat) : List UInt8 := segC a b p 0 ++ tailT L (p - 1) 1
theorem segC_len (a b : Nat) : ∀ d i, (segC a b d i).length = d
  | 0, _ => rfl
  | d + 1, i => by simp [segC, segC_len]
theorem segL_len (L : Int) (j : Nat) : ∀ d i, (segL L j d i).length = d
  | 0, _ => rfl
  | d + 1, i => by simp [segL, segL_len]
section
variable {P L : Int} {a b : Nat}
theorem form2 (hP : P ≤ 8) (j : Nat) (hj : 1 ≤ j ∧ (j : Int) < P) (R : ByteArray) (d : Nat) : ∀ (i : Nat) (acc : List UInt8), i + d = j → acc.length + d ≤ 1000 →
    Ev (fun k => spec_l05Text.l1 k (BA (acc ++ segL L j d i)) ((j + 1 : Nat) : Int) P L a b) R → Ev (fun k => spec_l05Text.l2 k (BA acc) j i P L a b) R := by
  induction d with
  | zero =>
    intro i acc hi hs hE
    refine evSucc (fun k => by rw [spec_l05Text.l2]) ?_
    refine evF (by omega) ?_
    rw [wrap_in (x := (j : Int) + 1) (by omega) (by omega), show (j : Int) + 1 = ((j + 1 : Nat) : Int) by omega]
    simpa [segL] using hE
  | succ d ih =>
    intro i acc hi hs hE
    have hij : (i : Int) < (j : Int) := by omega
    have hw : wrap64 ((i : Int) + 1) = ((i + 1 : Nat) : Int) := by rw [wrap_in (by omega) (by omega)]; omega
    have hsz : (BA acc).size + 1 ≤ 9223372036854775807 := by rw [BA_size]; omega
    rw [segL] at hE
    refine evSucc (fun k => by rw [spec_l05Text.l2, hw]) ?_
    refine evT hij (evG (joins_spec P L a b i j (by omega) (by omega)) ?_)
    cases c : jn L i j with
    | true =>
      have e : chL L i j = 49 := if_pos c
      rw [e] at hE
      refine evT rfl (evT hsz ?_)
      rw [BA_push]
      exact ih (i + 1) (acc ++ [49]) (by omega) (by simp; omega) (by simpa using hE)
    | false =>
      have e : chL L i j = 48 := if_neg (by rw [c]; decide)
      rw [e] at hE
      refine evF (by decide) (evT hsz ?_)
      rw [BA_push]
      exact ih (i + 1) (acc ++ [48]) (by omega) (by simp; omega) (by simpa using hE)
theorem form1 (hP : P ≤ 8) (d : Nat) : ∀ (j : Nat) (acc : List UInt8), 1 ≤ j → (j : Int) + d = P → acc.length + 10 * d ≤ 900 → Ev (fun k => spec_l05Text.l1 k (BA acc) j P L a b) (BA (acc ++ tailT L d j)) := by
  induction d with
  | zero =>
    intro j acc h1 hj hs
    refine evSucc (fun k => by rw [spec_l05Text.l1]) ?_
    refine evF (by omega) (evE ?_ (evS _))
    simp [tailT]
  | succ d ih =>
    intro j acc h1 hj hs
    have hsz : (BA acc).size + 1 ≤ 9223372036854775807 := by rw [BA_size]; omega
    refine evSucc (fun k => by rw [spec_l05Text.l1]) ?_
    refine evT (by omega) (evT hsz ?_)
    rw [BA_push]
    refine form2 hP j ⟨h1, by omega⟩ _ j 0 (acc ++ [44]) (by omega) (by simp; omega) ?_
    have := ih (j + 1) (acc ++ [44] ++ segL L j j 0) (by omega) (by omega) (by simp [segL_len]; omega)
    rw [tailT]
    simpa using this
theorem form0 (hP : 1 ≤ P ∧ P ≤ 8) (hsm : a < 2 ^ 62 ∧ b < 2 ^ 62) (d : Nat) : ∀ (i : Nat) (acc : List UInt8), (i : Int) + d = P → acc.length + d ≤ 100 → Ev (fun k => spec_l05Text.l0 k (BA acc) i P L a b) (BA (acc ++ segC a b d i ++ tailT L (P.toNat - 1) 1)) := by
  induction d with
  | zero =>
    intro i acc hi hs
    refine evSucc (fun k => by rw [spec_l05Text.l0]) ?_
    refine evF (by omega) ?_
    have := form1 (L := L) (a := a) (b := b) hP.2 (P.toNat - 1) 1 acc (by omega) (by omega) (by omega)
    simpa [segC] using this
  | succ d ih =>
    intro i acc hi hs
    have hi0 : (0 : Int) ≤ (i : Int) := Int.natCast_nonneg _
    have hi1 : (i : Int) ≤ 60 := by clear hsm; omega
    have ha := dig_bit a i hsm.1 hi0 hi1
    have hb := dig_bit b i hsm.2 hi0 hi1
    clear hsm
    rw [show ((i : Nat) : Int).toNat = i by omega] at ha hb
    have hu : IntKind.u64.wrap (i : Int) = i := u64_at _ (by omega) (by omega)
    have hw : wrap64 ((i : Int) + 1) = ((i + 1 : Nat) : Int) := by rw [wrap_in (by omega) (by omega)]; omega
    have hsz : (BA acc).size + 1 ≤ 9223372036854775807 := by rw [BA_size]; omega
    have next := ih (i + 1) (acc ++ [chC a b i]) (by omega) (by simp; omega)
    rw [segC]
    rw [show acc ++ [chC a b i] ++ segC a b d (i + 1) = acc ++ chC a b i :: segC a b d (i + 1) by simp] at next
    refine evSucc (fun k => by rw [spec_l05Text.l0, hu, hw]) ?_
    refine evT (by omega) (evT (by omega) ?_)
    rw [ha, hb]
    cases ta : a.testBit i with
    | true =>
      have e : chC a b i = 114 := if_pos ta
      rw [e] at next ⊢
      refine evT (by rfl) (evT hsz ?_)
      rw [BA_push]
      exact next
    | false =>
      refine evF (by decide) ?_
      cases tb : b.testBit i with
      | true =>
        have e : chC a b i = 98 := by unfold chC; rw [ta, tb]; rfl
        rw [e] at next ⊢
        refine evT (by rfl) (evT hsz ?_)
        rw [BA_push]
        exact next
      | false =>
        have e : chC a b i = 46 := by unfold chC; rw [ta, tb]; rfl
        rw [e] at next ⊢
        refine evF (by decide) (evT hsz ?_)
        rw [BA_push]
        exact next
theorem form_small (hP : 1 ≤ P ∧ P ≤ 8) (hsm : a < 2 ^ 62 ∧ b < 2 ^ 62) : Ev (fun k => spec_l05Text.f k P L a b) (BA (textT P.toNat L a b)) := by
  unfold spec_l05Text.f
  show Ev (fun k => spec_l05Text.l0 k (BA []) 0 P L a b) _
  have := form0 (L := L) hP hsm P.toNat 0 [] (by omega) (by simp; omega)
  simpa [textT] using this
theorem form_spec (hP : 1 ≤ P ∧ P ≤ 8) (h2 : Two P.toNat a b) : Ev (fun k => spec_l05Text.f k P L a b) (BA (textT P.toNat L a b)) := form_small hP (h2.small (by omega))
end
theorem tailT_len (L : Int) : ∀ d j, j + d ≤ 8 → (tailT L d j).length ≤ 9 * d
  | 0, _, _ => by simp [tailT]
  | d + 1, j, h => by
    have := tailT_len L d (j + 1) (by omega)
    simp [tailT, segL_len]
    omega
theorem textT_len (p : Nat) (L : Int) (a b : Nat) (h : p ≤ 8) : (textT p L a b).length ≤ 80 := by
  have := tailT_len L (p - 1) 1
  unfold textT
  rw [List.length_append, segC_len]
  by_cases h0 : p = 0
  · subst h0
    simp [tailT]
  · have := this (by omega)
    omega
/-- The field's text by the program too. -/
theorem form_impl {p L a b : Nat} (hf : impl_IsField.f (p : Int) (L : Int) (a : Int) (b : Int) = some true) (hP : 1 ≤ p ∧ p ≤ 8) (h2 : Two p a b) : Ev (fun k => impl_FieldText.f k (p : Int) (L : Int) (a : Int) (b : Int)) (BA (textT p L a b), 0) := by
  obtain ⟨t, c, h1, h3⟩ := both_text (p : Int) (L : Int) (a : Int) (b : Int)
  have hE : Ev (fun k => spec_FieldText.f k (p : Int) (L : Int) (a : Int) (b : Int)) (BA (textT p L a b), 0) := by
    unfold spec_FieldText.f
    rw [isField_same]
    refine evG hf (evT rfl (evB (form_spec (P := (p : Int)) (L := (L : Int)) (by omega) (by simpa using h2)) ?_))
    simpa using evS _
  have e := ev_uniq h1 hE
  simp only [Prod.mk.injEq] at e
  obtain ⟨rfl, rfl⟩ := e
  exact h3
end Go.Proofs.YtlmohkbimnhecaaGreatDoor.B

namespace Go.Proofs.YtlmohkbimnhecaaGreatDoor.B
open Go.RowKit Go.Proofs.YtlmohkbimnhecaaGreatDoor.Q Go.Proofs.YtlmohkbimnhecaaGreatDoorW.PrintWords Go.Proofs.YtlmohkbimnhecaaGreatDoorW.PrintLast Go.Proofs.YtlmohkbimnhecaaGreatDoorW.PrintMore

def tri (n : Nat) : Nat := n * (n - 1) / 2
theorem tri_succ (n : Nat) : tri (n + 1) = tri n + n := by
  unfold tri
  cases n with
  | zero => rfl
  | succ m =>
    rw [Nat.add_sub_cancel, Nat.add_sub_cancel]
    have h : (m + 1 + 1) * (m + 1) = (m + 1) * m + 2 * (m + 1) := by
      rw [show m + 1 + 1 = m + 2 by omega, Nat.add_mul]
      rw [Nat.mul_comm m (m + 1), Nat.mul_comm 2 (m + 1)]
    rw [h]
    omega
theorem trI_nat (j : Nat) (h : j ≤ 16) : trI (j : Int) = (tri j : Int) := by
  have hd : ∀ m : Fin 17, trI ((m.val : Nat) : Int) = (tri m.val : Int) := by decide +kernel
  exact hd ⟨j, by omega⟩
theorem tri_le (j : Nat) (h : j ≤ 8) : tri j ≤ 28 := by
  have hd : ∀ m : Fin 9, tri m.val ≤ 28 := by decide +kernel
  exact hd ⟨j, by omega⟩
theorem shl_nat (i : Nat) (h : i ≤ 60) : shl .i64 1 (i : Int) = ((2 ^ i : Nat) : Int) := by
  have hd : ∀ m : Fin 61, shl .i64 1 ((m.val : Nat) : Int) = ((2 ^ m.val : Nat) : Int) := by decide +kernel
  exact hd ⟨i, by omega⟩
theorem or_step (x i : Nat) (hx : x < 2 ^ 61) (hi : i ≤ 60) : Go.bits .or .i64 (x : Int) (shl .i64 1 (i : Int)) = ((x ||| 2 ^ i : Nat) : Int) := by
  rw [shl_nat i hi]
  exact or_nat x (2 ^ i) (Nat.lt_trans hx (by decide)) (Nat.lt_of_le_of_lt (Nat.pow_le_pow_right (by decide) hi) (by decide))
theorem lt61 {x n : Nat} (h : x < 2 ^ n) (hn : n ≤ 61) : x < 2 ^ 61 := Nat.lt_of_lt_of_le h (Nat.pow_le_pow_right (by decide) hn)
/-- A letter of a list. -/
def lt_ (r : List UInt8) (i : Nat) : UInt8 := r.getD i 0
theorem bt_lt (r : List UInt8) (i : Nat) (h : i < r.length) : bt (BA r) (i : Int) = ((lt_ r i).toNat : Int) := by
  rw [bt_BA r i (by omega) (by omega)]
  unfold lt_
  rw [List.getD_eq_getElem?_getD, List.getElem?_eq_getElem h]
  simp
theorem toNat_iff (c : UInt8) (n : Nat) (d : UInt8) (h : d.toNat = n) : ((c.toNat : Nat) : Int) = (n : Int) ↔ c = d := by
  constructor
  · intro e
    exact UInt8.toNat_inj.1 (by omega)
  · rintro rfl
    omega
def rowAt (rs : List (List UInt8)) (j : Nat) : List UInt8 := rs.getD j []
theorem rdOf_row (rs : List (List UInt8)) (j : Nat) (h : j < rs.length) : rdOf ByteArray.empty (rs.map BA) (j : Int) = BA (rowAt rs j) := by
  unfold rdOf rowAt
  rw [show ((j : Nat) : Int).toNat = j by omega, List.getD_eq_getElem?_getD, List.getD_eq_getElem?_getD, List.getElem?_map, List.getElem?_eq_getElem h]
  rfl
section
variable {rs : List (List UInt8)} {s : ByteArray}
theorem read0 (hn : 1 ≤ rs.length ∧ rs.length ≤ 8) (h0 : (rowAt rs 0).length = rs.length) (I : Nat → Nat → Nat → Prop) (hsm : ∀ i R B, I i R B → R < 2 ^ 61 ∧ B < 2 ^ 61)
    (hst : ∀ i R B, i < rs.length → I i R B → (lt_ (rowAt rs 0) i = 114 → I (i + 1) (R ||| 2 ^ i) B) ∧ (lt_ (rowAt rs 0) i ≠ 114 → lt_ (rowAt rs 0) i = 98 → I (i + 1) R (B ||| 2 ^ i)) ∧ (lt_ (rowAt rs 0) i ≠ 114 → lt_ (rowAt rs 0) i ≠ 98 → I (i + 1) R B)) (d : Nat) :
    ∀ (i R B : Nat), i + d = rs.length → I i R B → ∃ R' B', I rs.length R' B' ∧ ∀ res, Ev (fun k => spec_l05Read.l1 k s (rs.map BA) 1 (rs.length : Int) 0 (R' : Int) (B' : Int)) res → Ev (fun k => spec_l05Read.l0 k s (rs.map BA) (i : Int) (rs.length : Int) 0 (R : Int) (B : Int)) res := by
  induction d with
  | zero =>
    intro i R B hi hI
    refine ⟨R, B, by rw [← hi]; exact hI, fun res hE => ?_⟩
    refine evSucc (fun k => by rw [spec_l05Read.l0]) ?_
    rw [List.length_map]
    exact evF (by omega) hE
  | succ d ih =>
    intro i R B hi hI
    have hlt : i < rs.length := by omega
    have hw : wrap64 ((i : Int) + 1) = ((i + 1 : Nat) : Int) := by rw [wrap_in (by omega) (by omega)]; omega
    have hu : IntKind.u64.wrap (i : Int) = i := u64_at _ (by omega) (by omega)
    have hr0 := rdOf_row rs 0 (by omega)
    have hr0' : rdOf ByteArray.empty (rs.map BA) 0 = BA (rowAt rs 0) := hr0
    have hbt := bt_lt (rowAt rs 0) i (by omega)
    obtain ⟨t1, t2, t3⟩ := hst i R B hlt hI
    have hs := hsm i R B hI
    have walk : ∀ res, Ev (fun k => if ((lt_ (rowAt rs 0) i).toNat : Int) = 114 then (if 0 ≤ (i : Int) then (spec_l05Read.l0 k s (rs.map BA) ((i + 1 : Nat) : Int) (rs.length : Int) 0 (Go.bits .or .i64 (R : Int) (shl .i64 1 (i : Int))) (B : Int)) else none) else (if ((lt_ (rowAt rs 0) i).toNat : Int) = 98 then (if 0 ≤ (i : Int) then (spec_l05Read.l0 k s (rs.map BA) ((i + 1 : Nat) : Int) (rs.length : Int) 0 (R : Int) (Go.bits .or .i64 (B : Int) (shl .i64 1 (i : Int)))) else none) else (spec_l05Read.l0 k s (rs.map BA) ((i + 1 : Nat) : Int) (rs.length : Int) 0 (R : Int) (B : Int)))) res →
        Ev (fun k => spec_l05Read.l0 k s (rs.map BA) (i : Int) (rs.length : Int) 0 (R : Int) (B : Int)) res := by
      intro res hE
      refine evSucc (fun k => by rw [spec_l05Read.l0, hu, hw, hr0', hbt]) ?_
      rw [List.length_map, BA_size, h0]
      exact evT (by omega) (evT (by omega) (evT (by omega) (evT (by omega) hE)))
    by_cases c1 : lt_ (rowAt rs 0) i = 114
    · obtain ⟨R', B', g1, g2⟩ := ih (i + 1) (R ||| 2 ^ i) B (by omega) (t1 c1)
      refine ⟨R', B', g1, fun res hE => walk res (evT ((toNat_iff _ 114 114 rfl).2 c1) (evT (by omega) ?_))⟩
      rw [or_step R i hs.1 (by omega)]
      exact g2 res hE
    · by_cases c2 : lt_ (rowAt rs 0) i = 98
      · obtain ⟨R', B', g1, g2⟩ := ih (i + 1) R (B ||| 2 ^ i) (by omega) (t2 c1 c2)
        refine ⟨R', B', g1, fun res hE => walk res (evF (fun h => c1 ((toNat_iff _ 114 114 rfl).1 h)) (evT ((toNat_iff _ 98 98 rfl).2 c2) (evT (by omega) ?_)))⟩
        rw [or_step B i hs.2 (by omega)]
        exact g2 res hE
      · obtain ⟨R', B', g1, g2⟩ := ih (i + 1) R B (by omega) (t3 c1 c2)
        exact ⟨R', B', g1, fun res hE => walk res (evF (fun h => c1 ((toNat_iff _ 114 114 rfl).1 h)) (evF (fun h => c2 ((toNat_iff _ 98 98 rfl).1 h)) (g2 res hE)))⟩
theorem read2 (hn : 1 ≤ rs.length ∧ rs.length ≤ 8) (j : Nat) (hj : 1 ≤ j ∧ j < rs.length) (hl : (rowAt rs j).length = j) (R B : Int) (I : Nat → Nat → Prop) (hsm : ∀ i L, I i L → L < 2 ^ 61)
    (hst : ∀ i L, i < j → I (tri j + i) L → (lt_ (rowAt rs j) i = 49 → I (tri j + i + 1) (L ||| 2 ^ (tri j + i))) ∧ (lt_ (rowAt rs j) i ≠ 49 → I (tri j + i + 1) L)) (d : Nat) :
    ∀ (i L : Nat), i + d = j → I (tri j + i) L → ∃ L' : Nat, I (tri j + j) L' ∧ ∀ res, Ev (fun k => spec_l05Read.l1 k s (rs.map BA) ((j + 1 : Nat) : Int) (rs.length : Int) (L' : Int) R B) res → Ev (fun k => spec_l05Read.l2 k s (rs.map BA) (j : Int) (i : Int) (rs.length : Int) (L : Int) R B) res := by
  have hjw : wrap64 ((j : Int) + 1) = ((j + 1 : Nat) : Int) := by rw [wrap_in (by omega) (by omega)]; omega
  have htj := tri_le j (by omega)
  induction d with
  | zero =>
    intro i L hi hI
    refine ⟨L, by have e : i = j := (by omega); rw [e] at hI; exact hI, fun res hE => ?_⟩
    refine evSucc (fun k => by rw [spec_l05Read.l2]) ?_
    refine evF (by omega) (evSucc (fun k => by rw [spec_l05Read.j4, hjw]) ?_)
    exact evF (by decide) hE
  | succ d ih =>
    intro i L hi hI
    have hlt : i < j := by omega
    have hw : wrap64 ((i : Int) + 1) = ((i + 1 : Nat) : Int) := by rw [wrap_in (by omega) (by omega)]; omega
    have hrj := rdOf_row rs j (by omega)
    have hbt := bt_lt (rowAt rs j) i (by omega)
    have hpos : wrap64 ((wrap64 (Int.tdiv (wrap64 ((j : Int) * (wrap64 ((j : Int) - 1)))) 2)) + (i : Int)) = ((tri j + i : Nat) : Int) := by
      have := trI_nat j (by omega)
      unfold trI at this
      rw [this, wrap_in (by omega) (by omega)]
      omega
    have hu : IntKind.u64.wrap ((tri j + i : Nat) : Int) = ((tri j + i : Nat) : Int) := u64_at _ (by omega) (by omega)
    obtain ⟨t1, t2⟩ := hst i L hlt hI
    have hs := hsm _ L hI
    have walk : ∀ res, Ev (fun k => if ((lt_ (rowAt rs j) i).toNat : Int) = 49 then (if 0 ≤ ((tri j + i : Nat) : Int) then (spec_l05Read.l2 k s (rs.map BA) (j : Int) ((i + 1 : Nat) : Int) (rs.length : Int) (Go.bits .or .i64 (L : Int) (shl .i64 1 ((tri j + i : Nat) : Int))) R B) else none) else (spec_l05Read.l2 k s (rs.map BA) (j : Int) ((i + 1 : Nat) : Int) (rs.length : Int) (L : Int) R B)) res →
        Ev (fun k => spec_l05Read.l2 k s (rs.map BA) (j : Int) (i : Int) (rs.length : Int) (L : Int) R B) res := by
      intro res hE
      refine evSucc (fun k => by rw [spec_l05Read.l2, hrj]) ?_
      rw [List.length_map, BA_size, hl, beq_self_eq_true]
      refine evT (by omega) (evT (by omega) (evT (by omega) (evSucc (fun k => by rw [spec_l05Read.j4, hrj, hbt, hpos, hu, hw]) ?_)))
      rw [List.length_map, BA_size, hl]
      exact evT rfl (evT (by omega) (evT (by omega) (evT (by omega) (evT (by omega) hE))))
    by_cases c1 : lt_ (rowAt rs j) i = 49
    · obtain ⟨L', g1, g2⟩ := ih (i + 1) (L ||| 2 ^ (tri j + i)) (by omega) (by rw [← Nat.add_assoc]; exact t1 c1)
      refine ⟨L', g1, fun res hE => walk res (evT ((toNat_iff _ 49 49 rfl).2 c1) (evT (by omega) ?_))⟩
      rw [or_step L (tri j + i) hs (by omega)]
      exact g2 res hE
    · obtain ⟨L', g1, g2⟩ := ih (i + 1) L (by omega) (by rw [← Nat.add_assoc]; exact t2 c1)
      exact ⟨L', g1, fun res hE => walk res (evF (fun h => c1 ((toNat_iff _ 49 49 rfl).1 h)) (g2 res hE))⟩
theorem read1 (hn : 1 ≤ rs.length ∧ rs.length ≤ 8) (R B : Int) (I : Nat → Nat → Prop) (hsm : ∀ i L, I i L → L < 2 ^ 61)
    (hst : ∀ j, 1 ≤ j → j < rs.length → (rowAt rs j).length = j → ∀ i L, i < j → I (tri j + i) L → (lt_ (rowAt rs j) i = 49 → I (tri j + i + 1) (L ||| 2 ^ (tri j + i))) ∧ (lt_ (rowAt rs j) i ≠ 49 → I (tri j + i + 1) L))
    (hsk : ∀ j L, 1 ≤ j → j < rs.length → (rowAt rs j).length ≠ j → I (tri j) L → I (tri (j + 1)) L) (d : Nat) :
    ∀ (j L : Nat), 1 ≤ j → j + d = rs.length → I (tri j) L → ∃ L' : Nat, I (tri rs.length) L' ∧ ∀ res, Ev (fun k => (spec_l05Text.f k (rs.length : Int) (L' : Int) R B).bind fun t => some ((rs.length : Int), (L' : Int), R, B, (t.toList == s.toList))) res → Ev (fun k => spec_l05Read.l1 k s (rs.map BA) (j : Int) (rs.length : Int) (L : Int) R B) res := by
  induction d with
  | zero =>
    intro j L h1 hj hI
    refine ⟨L, by rw [← hj]; exact hI, fun res hE => ?_⟩
    refine evSucc (fun k => by rw [spec_l05Read.l1]) ?_
    rw [List.length_map]
    exact evF (by omega) hE
  | succ d ih =>
    intro j L h1 hj hI
    have hjw : wrap64 ((j : Int) + 1) = ((j + 1 : Nat) : Int) := by rw [wrap_in (by omega) (by omega)]; omega
    by_cases hl : (rowAt rs j).length = j
    · obtain ⟨L1, g1, g2⟩ := read2 (s := s) hn j ⟨h1, by omega⟩ hl R B I hsm (hst j h1 (by omega) hl) j 0 L (by omega) (by simpa using hI)
      obtain ⟨L', g3, g4⟩ := ih (j + 1) L1 (by omega) (by omega) (by rw [tri_succ]; exact g1)
      refine ⟨L', g3, fun res hE => ?_⟩
      refine evSucc (fun k => by rw [spec_l05Read.l1]) ?_
      rw [List.length_map]
      exact evT (by omega) (g2 res (g4 res hE))
    · obtain ⟨L', g3, g4⟩ := ih (j + 1) L (by omega) (by omega) (hsk j L h1 (by omega) hl hI)
      refine ⟨L', g3, fun res hE => ?_⟩
      have hrj := rdOf_row rs j (by omega)
      have hfl : (((rowAt rs j).length : Int) == (j : Int)) = false := beq_eq_false_iff_ne.mpr (by omega)
      refine evSucc (fun k => by rw [spec_l05Read.l1]) ?_
      rw [List.length_map]
      refine evT (by omega) (evSucc (fun k => by rw [spec_l05Read.l2, hrj]) ?_)
      rw [List.length_map, BA_size, hfl]
      refine evT (by omega) (evT (by omega) (evT (by omega) (evSucc (fun k => by rw [spec_l05Read.j4, hjw]) ?_)))
      exact evF (by decide) (g4 res hE)
end
end Go.Proofs.YtlmohkbimnhecaaGreatDoor.B

namespace Go.Proofs.YtlmohkbimnhecaaGreatDoor.B
open Go.RowKit Go.Proofs.YtlmohkbimnhecaaGreatDoor.Q Go.Proofs.YtlmohkbimnhecaaGreatDoorW.PrintWords Go.Proofs.YtlmohkbimnhecaaGreatDoorW.PrintLast Go.Proofs.YtlmohkbimnhecaaGreatDoorW.PrintMore

theorem splitQ_pre (c : UInt8) : ∀ (x cur y : List UInt8), c ∉ x → splitQ c cur (x ++ y) = splitQ c (cur ++ x) y
  | [], cur, y, _ => by simp
  | b :: x, cur, y, h => by
    have hb : b ≠ c := fun e => h (by simp [e])
    rw [List.cons_append, splitQ, if_neg hb, splitQ_pre c x _ y (fun hr => h (by simp [hr]))]
    simp
def rowsT (L : Int) : Nat → Nat → List (List UInt8)
  | 0, _ => []
  | d + 1, j => segL L j j 0 :: rowsT L d (j + 1)
theorem segL_no (L : Int) (j : Nat) : ∀ d i, (44 : UInt8) ∉ segL L j d i
  | 0, _ => by simp [segL]
  | d + 1, i => by
    rw [segL, List.mem_cons]
    rintro (h | h)
    · unfold chL at h
      split at h <;> cases h
    · exact segL_no L j d (i + 1) h
theorem segC_no (a b : Nat) : ∀ d i, (44 : UInt8) ∉ segC a b d i
  | 0, _ => by simp [segC]
  | d + 1, i => by
    rw [segC, List.mem_cons]
    rintro (h | h)
    · unfold chC at h
      split at h
      · cases h
      · split at h <;> cases h
    · exact segC_no a b d (i + 1) h
theorem split_tail (L : Int) : ∀ (d j : Nat) (cur : List UInt8), splitQ 44 cur (tailT L d j) = cur :: rowsT L d j
  | 0, _, cur => by simp [tailT, splitQ, rowsT]
  | d + 1, j, cur => by
    rw [tailT, splitQ, if_pos rfl, splitQ_pre 44 _ _ _ (segL_no L j j 0), List.nil_append, split_tail L d (j + 1), rowsT]
theorem split_text (p : Nat) (L : Int) (a b : Nat) : splitQ 44 [] (textT p L a b) = segC a b p 0 :: rowsT L (p - 1) 1 := by
  unfold textT
  rw [splitQ_pre 44 _ _ _ (segC_no a b p 0), List.nil_append, split_tail]
theorem rowsT_len (L : Int) : ∀ d j, (rowsT L d j).length = d
  | 0, _ => rfl
  | d + 1, j => by simp [rowsT, rowsT_len]
theorem rowsT_get (L : Int) : ∀ (d j i : Nat), i < d → (rowsT L d j).getD i [] = segL L (j + i) (j + i) 0
  | 0, _, _, h => by omega
  | d + 1, j, 0, _ => by simp [rowsT]
  | d + 1, j, i + 1, h => by
    rw [rowsT, List.getD_cons_succ, rowsT_get L d (j + 1) i (by omega), show j + 1 + i = j + (i + 1) by omega]
theorem segL_get (L : Int) (j : Nat) : ∀ (d i k : Nat), k < d → lt_ (segL L j d i) k = chL L (i + k) j
  | 0, _, _, h => by omega
  | d + 1, i, 0, _ => by simp [segL, lt_]
  | d + 1, i, k + 1, h => by
    have := segL_get L j d (i + 1) k (by omega)
    unfold lt_ at this ⊢
    rw [segL, List.getD_cons_succ, this, show i + 1 + k = i + (k + 1) by omega]
theorem segC_get (a b : Nat) : ∀ (d i k : Nat), k < d → lt_ (segC a b d i) k = chC a b (i + k)
  | 0, _, _, h => by omega
  | d + 1, i, 0, _ => by simp [segC, lt_]
  | d + 1, i, k + 1, h => by
    have := segC_get a b d (i + 1) k (by omega)
    unfold lt_ at this ⊢
    rw [segC, List.getD_cons_succ, this, show i + 1 + k = i + (k + 1) by omega]
theorem mod_on (a i : Nat) (h : a.testBit i = true) : a % 2 ^ i ||| 2 ^ i = a % 2 ^ (i + 1) := by
  refine Nat.eq_of_testBit_eq (fun j => ?_)
  rw [or_bit, Nat.testBit_mod_two_pow, Nat.testBit_mod_two_pow]
  by_cases e : i = j
  · subst e
    simp [h]
  · by_cases hl : j < i
    · simp [hl, e, show j < i + 1 by omega]
    · simp [hl, e, show ¬ j < i + 1 by omega]
theorem mod_off (a i : Nat) (h : a.testBit i = false) : a % 2 ^ i = a % 2 ^ (i + 1) := by
  refine Nat.eq_of_testBit_eq (fun j => ?_)
  rw [Nat.testBit_mod_two_pow, Nat.testBit_mod_two_pow]
  by_cases e : i = j
  · subst e
    simp [h]
  · by_cases hl : j < i
    · simp [hl, show j < i + 1 by omega]
    · simp [hl, show ¬ j < i + 1 by omega]
theorem jn_bit (L i j : Nat) (hL : L < 2 ^ 62) (hi : i < j) (hj : j ≤ 8) : jn (L : Int) (i : Int) (j : Int) = L.testBit (tri j + i) := by
  have h1 : mx (i : Int) (j : Int) = (j : Int) := by unfold mx; split <;> omega
  have h2 : mn (i : Int) (j : Int) = (i : Int) := by unfold mn; split <;> omega
  have ht := tri_le j hj
  have h3 := trI_nat j (by omega)
  have h0 : (0 : Int) ≤ ((tri j + i : Nat) : Int) := Int.natCast_nonneg _
  have h4 : ((tri j + i : Nat) : Int) ≤ 60 := by clear hL; omega
  unfold jn
  rw [h1, h2, h3, show (tri j : Int) + (i : Int) = ((tri j + i : Nat) : Int) by omega, dig_bit L _ hL h0 h4, show ((tri j + i : Nat) : Int).toNat = tri j + i by omega]
  cases L.testBit (tri j + i) <;> rfl
/-- A field. -/
structure Fld (p L a b : Nat) : Prop where
  p1 : 1 ≤ p
  p8 : p ≤ 8
  l : L < 2 ^ tri p
  two : Two p a b
theorem pow28 {p : Nat} (h : p ≤ 8) : 2 ^ tri p ≤ 2 ^ 28 := Nat.pow_le_pow_right (by decide) (tri_le p h)
theorem Fld.small {p L a b : Nat} (h : Fld p L a b) : L < 268435456 ∧ a < 256 ∧ b < 256 := by
  have h1 := pow28 h.p8
  have h2 : 2 ^ p ≤ 2 ^ 8 := Nat.pow_le_pow_right (by decide) h.p8
  have h3 := h.l
  have h4 := h.two.1
  have h5 := h.two.2.1
  have k1 : (2 : Nat) ^ 28 = 268435456 := by decide
  have k2 : (2 : Nat) ^ 8 = 256 := by decide
  rw [k1] at h1
  rw [k2] at h2
  exact ⟨Nat.lt_of_lt_of_le h3 h1, Nat.lt_of_lt_of_le h4 h2, Nat.lt_of_lt_of_le h5 h2⟩
theorem two_and {p a b : Nat} (h : Two p a b) : a &&& b = 0 := by
  refine Nat.eq_of_testBit_eq (fun i => ?_)
  rw [Nat.testBit_and, Nat.zero_testBit]
  have := (dg_three a b i).1 (h.2.2 i)
  cases ha : a.testBit i <;> cases hb : b.testBit i <;> simp_all
theorem Fld.is {p L a b : Nat} (h : Fld p L a b) : impl_IsField.f (p : Int) (L : Int) (a : Int) (b : Int) = some true := by
  obtain ⟨s1, s2, s3⟩ := h.small
  have h1 := h.p1
  have h8 := h.p8
  have htp := tri_le p h8
  have hT := trI_nat p (by omega)
  have e1 : wrap64 (shl .i64 1 (tri p : Int) - 1) = ((2 ^ tri p : Nat) : Int) - 1 := by
    rw [shl_nat _ (by omega)]
    have := pow28 h8
    have k1 : (2 : Nat) ^ 28 = 268435456 := by decide
    rw [k1] at this
    generalize 2 ^ tri p = m at this
    exact wrap_in (by omega) (by omega)
  have e2 : wrap64 (shl .i64 1 (p : Int) - 1) = ((2 ^ p : Nat) : Int) - 1 := by
    rw [shl_nat _ (by omega)]
    have : 2 ^ p ≤ 2 ^ 8 := Nat.pow_le_pow_right (by decide) h8
    have k1 : (2 : Nat) ^ 8 = 256 := by decide
    rw [k1] at this
    generalize 2 ^ p = m at this
    exact wrap_in (by omega) (by omega)
  have hl := h.l
  have ha := h.two.1
  have hb := h.two.2.1
  have hand : Go.bits .and .i64 (a : Int) (b : Int) = 0 := by
    rw [and_nat a b (Nat.lt_trans s2 (by decide)) (Nat.lt_trans s3 (by decide)), two_and h.two]
    rfl
  unfold trI at hT
  unfold impl_IsField.f impl_pairs.f
  simp only [within_eq, Option.bind_some]
  rw [hT, e1, e2, hand]
  generalize 2 ^ tri p = m1 at hl
  generalize 2 ^ p = m2 at ha hb
  rw [if_pos (decide_eq_true (show 1 ≤ (p : Int) ∧ (p : Int) ≤ 8 by omega)), if_pos (by omega), if_pos (decide_eq_true (show 0 ≤ (L : Int) ∧ (L : Int) ≤ (m1 : Int) - 1 by omega)), if_pos (by omega), if_pos (decide_eq_true (show 0 ≤ (a : Int) ∧ (a : Int) ≤ (m2 : Int) - 1 by omega)), if_pos (decide_eq_true (show 0 ≤ (b : Int) ∧ (b : Int) ≤ (m2 : Int) - 1 by omega))]
  rfl
theorem chC_r (a b i : Nat) (h : dg a b i ≠ 3) : (chC a b i = 114 ↔ a.testBit i = true) ∧ (chC a b i = 98 ↔ b.testBit i = true) := by
  have h3 := (dg_three a b i).1 h
  unfold chC
  cases ha : a.testBit i <;> cases hb : b.testBit i <;> simp_all
/-- Of a field's text the reference reads the field. -/
theorem spec_reads {p L a b : Nat} (h : Fld p L a b) : Ev (fun k => spec_l05Read.f k (BA (textT p L a b))) ((p : Int), (L : Int), (a : Int), (b : Int), true) := by
  obtain ⟨s1, s2, s3⟩ := h.small
  have h1 := h.p1
  have h8 := h.p8
  have hrs := split_text p L a b
  have hlen := textT_len p L a b h8
  obtain ⟨rs, hr⟩ : ∃ rs, rs = splitQ 44 [] (textT p L a b) := ⟨_, rfl⟩
  rw [← hr] at hrs
  have hn : rs.length = p := by rw [hrs, List.length_cons, rowsT_len]; omega
  have hr0 : rowAt rs 0 = segC a b p 0 := by rw [hrs]; rfl
  have hrj : ∀ j, 1 ≤ j → j < p → rowAt rs j = segL L j j 0 := fun j j1 j2 => by
    obtain ⟨i, rfl⟩ : ∃ i, j = i + 1 := ⟨j - 1, by omega⟩
    unfold rowAt
    rw [hrs, List.getD_cons_succ, rowsT_get L _ 1 i (by omega), show 1 + i = i + 1 by omega]
  have hn8 : 1 ≤ rs.length ∧ rs.length ≤ 8 := by omega
  have hr0l : (rowAt rs 0).length = rs.length := by rw [hr0, segC_len, hn]
  obtain ⟨R', B', g1, g2⟩ := read0 (s := BA (textT p L a b)) hn8 hr0l (fun i R B => R = a % 2 ^ i ∧ B = b % 2 ^ i)
    (fun i R B hI => by
      have k1 : (2 : Nat) ^ 61 = 2305843009213693952 := by decide
      rw [k1, hI.1, hI.2]
      exact ⟨Nat.lt_of_le_of_lt (Nat.mod_le _ _) (by omega), Nat.lt_of_le_of_lt (Nat.mod_le _ _) (by omega)⟩)
    (fun i R B hi ⟨e1, e2⟩ => by
      rw [hr0, segC_get a b p 0 i (by omega), Nat.zero_add, e1, e2]
      obtain ⟨c1, c2⟩ := chC_r a b i (h.two.2.2 i)
      have h3 := (dg_three a b i).1 (h.two.2.2 i)
      refine ⟨fun c => ?_, fun n c => ?_, fun n m => ?_⟩
      · have ta := c1.1 c
        have tb : b.testBit i = false := by cases hb : b.testBit i; rfl; exact absurd ⟨ta, hb⟩ h3
        exact ⟨mod_on a i ta, mod_off b i tb⟩
      · have tb := c2.1 c
        have ta : a.testBit i = false := by cases ha : a.testBit i; rfl; exact absurd (c1.2 ha) n
        exact ⟨mod_off a i ta, mod_on b i tb⟩
      · have ta : a.testBit i = false := by cases ha : a.testBit i; rfl; exact absurd (c1.2 ha) n
        have tb : b.testBit i = false := by cases hb : b.testBit i; rfl; exact absurd (c2.2 hb) m
        exact ⟨mod_off a i ta, mod_off b i tb⟩) rs.length 0 0 0 (by omega) (by simp [Nat.mod_one])
  rw [hn, Nat.mod_eq_of_lt h.two.1, Nat.mod_eq_of_lt h.two.2.1] at g1
  obtain ⟨rfl, rfl⟩ := g1
  obtain ⟨L', g3, g4⟩ := read1 (s := BA (textT p L R' B')) hn8 (R' : Int) (B' : Int) (fun i M => M = L % 2 ^ i)
    (fun i M hI => by
      have k1 : (2 : Nat) ^ 61 = 2305843009213693952 := by decide
      rw [k1, hI]
      exact Nat.lt_of_le_of_lt (Nat.mod_le _ _) (by omega))
    (fun j j1 j2 _ i M hi hI => by
      rw [hrj j j1 (by omega), segL_get L j j 0 i hi, Nat.zero_add, hI]
      unfold chL
      rw [jn_bit L i j (Nat.lt_trans s1 (by decide)) hi (by omega)]
      cases hb : L.testBit (tri j + i) with
      | true => exact ⟨fun _ => mod_on L _ hb, fun c => absurd rfl c⟩
      | false => exact ⟨fun c => absurd c (by decide), fun _ => mod_off L _ hb⟩)
    (fun j M j1 j2 hl => absurd (by rw [hrj j j1 (by omega), segL_len]) hl) (rs.length - 1) 1 0 (by omega) (by omega) (by simp [tri, Nat.mod_one])
  rw [hn, Nat.mod_eq_of_lt h.l] at g3
  subst g3
  unfold spec_l05Read.f
  refine evB (split_spec 44 _ (by omega)) ?_
  rw [← hr, List.length_map]
  refine evF (by omega) (evT (by omega) ?_)
  have hr0' : rdOf ByteArray.empty (rs.map BA) 0 = BA (rowAt rs 0) := rdOf_row rs 0 (by omega)
  rw [hr0', BA_size, hr0l]
  refine evSucc (fun k => by rw [spec_l05Read.j0]) (evF (by simp) ?_)
  rw [hn] at g2 g4 ⊢
  refine g2 _ (g4 _ ?_)
  refine evB (form_spec (P := (p : Int)) (by omega) (by simpa using h.two)) ?_
  simp
  exact evS _
/-- Of any text it reads a field and asks for its text, or it reads none. -/
theorem spec_any (l : List UInt8) (hl : l.length ≤ 1000000000) : (∃ x1 x2 x3 x4, Ev (fun k => spec_l05Read.f k (BA l)) (x1, x2, x3, x4, false)) ∨ ∃ p L a b, Fld p L a b ∧ l = textT p L a b := by
  obtain ⟨rs, hr⟩ : ∃ rs, rs = splitQ 44 [] l := ⟨_, rfl⟩
  have hne : 1 ≤ rs.length := by rw [hr, splitQ_len]; omega
  have hr0' : rdOf ByteArray.empty (rs.map BA) 0 = BA (rowAt rs 0) := rdOf_row rs 0 (by omega)
  by_cases h8 : rs.length ≤ 8
  rotate_left
  · left
    refine ⟨0, 0, 0, 0, ?_⟩
    unfold spec_l05Read.f
    refine evB (split_spec 44 _ hl) ?_
    rw [← hr, List.length_map]
    refine evT (by omega) (evSucc (fun k => by rw [spec_l05Read.j0]) (evT rfl (evS _)))
  by_cases hr0l : (rowAt rs 0).length = rs.length
  rotate_left
  · left
    refine ⟨0, 0, 0, 0, ?_⟩
    unfold spec_l05Read.f
    refine evB (split_spec 44 _ hl) ?_
    rw [← hr, List.length_map]
    refine evF (by omega) (evT (by omega) ?_)
    rw [hr0', BA_size]
    exact evSucc (fun k => by rw [spec_l05Read.j0]) (evT (by simp; omega) (evS _))
  obtain ⟨R', B', g1, g2⟩ := read0 (s := BA l) ⟨hne, h8⟩ hr0l (fun i R B => Two i R B ∧ i ≤ rs.length)
    (fun i R B hI => ⟨lt61 hI.1.1 (by omega), lt61 hI.1.2.1 (by omega)⟩)
    (fun i R B hi ⟨hI, _⟩ => by
      have up : Two (i + 1) R B := ⟨Nat.lt_trans hI.1 (Nat.pow_lt_pow_right (by decide) (by omega)), Nat.lt_trans hI.2.1 (Nat.pow_lt_pow_right (by decide) (by omega)), hI.2.2⟩
      have z : dg R B i = 0 := (dg_zero R B i).2 ⟨bit_ge i R i hI.1 (Nat.le_refl _), bit_ge i B i hI.2.1 (Nat.le_refl _)⟩
      exact ⟨fun _ => ⟨up.left (by omega) z, by omega⟩, fun _ _ => ⟨up.right (by omega) z, by omega⟩, fun _ _ => ⟨up, by omega⟩⟩) rs.length 0 0 0 (by omega) ⟨⟨by decide, by decide, fun i => by simp [dg]⟩, by omega⟩
  obtain ⟨L', g3, g4⟩ := read1 (s := BA l) ⟨hne, h8⟩ (R' : Int) (B' : Int) (fun i M => M < 2 ^ i ∧ i ≤ 28)
    (fun i M hI => lt61 hI.1 (by omega))
    (fun j j1 j2 _ i M hi hI => by
      have ht := tri_le (j + 1) (by omega)
      rw [tri_succ] at ht
      exact ⟨fun _ => ⟨or_lt _ M _ (Nat.lt_trans hI.1 (Nat.pow_lt_pow_right (by decide) (by omega))) (by omega), by omega⟩, fun _ => ⟨Nat.lt_trans hI.1 (Nat.pow_lt_pow_right (by decide) (by omega)), by omega⟩⟩)
    (fun j M j1 j2 _ hI => by
      have ht := tri_le (j + 1) (by omega)
      refine ⟨Nat.lt_of_lt_of_le hI.1 (Nat.pow_le_pow_right (by decide) ?_), ht⟩
      rw [tri_succ]
      omega) (rs.length - 1) 1 0 (by omega) (by omega) ⟨by decide, by decide⟩
  have hF : Fld rs.length L' R' B' := ⟨hne, h8, g3.1, g1.1⟩
  have walk : Ev (fun k => spec_l05Read.f k (BA l)) ((rs.length : Int), (L' : Int), (R' : Int), (B' : Int), ((BA (textT rs.length L' R' B')).toList == (BA l).toList)) := by
    unfold spec_l05Read.f
    refine evB (split_spec 44 _ hl) ?_
    rw [← hr, List.length_map]
    refine evF (by omega) (evT (by omega) ?_)
    rw [hr0', BA_size, hr0l]
    refine evSucc (fun k => by rw [spec_l05Read.j0]) (evF (by simp) ?_)
    refine g2 _ (g4 _ ?_)
    exact evB (form_spec (P := (rs.length : Int)) (by omega) (by simpa using hF.two)) (evS _)
  by_cases e : textT rs.length L' R' B' = l
  · exact Or.inr ⟨_, _, _, _, hF, e.symm⟩
  · left
    refine ⟨(rs.length : Int), (L' : Int), (R' : Int), (B' : Int), ?_⟩
    rw [BA_toList, BA_toList, beq_eq_false_iff_ne.mpr e] at walk
    exact walk
/-- The letters of a set, read by the program. -/
theorem sets_eq (r : List UInt8) (hr : ∀ x ∈ r, x.toNat < 128) (hl : r.length ≤ 60) (c : UInt8) (I : Nat → Nat → Prop) (hsm : ∀ i x, I i x → x < 2 ^ 61)
    (hst : ∀ i x, i < r.length → I i x → (lt_ r i = c → I (i + 1) (x ||| 2 ^ i)) ∧ (lt_ r i ≠ c → I (i + 1) x)) (d : Nat) : ∀ (i x : Nat), i + d = r.length → I i x → ∃ y : Nat, I r.length y ∧ setsF (BA r) (c.toNat : Int) 64 d i (x : Int) = (y : Int) := by
  induction d with
  | zero =>
    intro i x hi hI
    exact ⟨x, by rw [← hi]; exact hI, rfl⟩
  | succ d ih =>
    intro i x hi hI
    have hlt : i < r.length := by omega
    have hsz : i < (BA r).size := by rw [BA_size]; exact hlt
    have hmem : r[i].toNat < 128 := hr _ (List.getElem_mem hlt)
    have hg : (BA r)[i]'hsz = r[i] := by simp [BA]; rfl
    have hdec : Utf8.decode (BA r) i = (r[i].toNat, 1) := by
      rw [decode_ascii (BA r) i hsz (by rw [hg]; exact hmem), hg]
    have hlt2 : lt_ r i = r[i] := by
      unfold lt_
      rw [List.getD_eq_getElem?_getD, List.getElem?_eq_getElem hlt]
      rfl
    have hru : runeI (BA r) i = (r[i].toNat : Int) := by unfold runeI; rw [hdec]
    have hwi : wideI (BA r) i = 1 := by unfold wideI; rw [hdec]
    rw [setsF, if_pos hsz, if_pos (show i < 64 by omega), hru, hwi]
    obtain ⟨t1, t2⟩ := hst i x hlt hI
    rw [hlt2] at t1 t2
    by_cases e : r[i] = c
    · obtain ⟨y, y1, y2⟩ := ih (i + 1) (x ||| 2 ^ i) (by omega) (t1 e)
      refine ⟨y, y1, ?_⟩
      have hp : wrap64 ((if (r[i].toNat : Int) = (c.toNat : Int) then 1 else 0) * 2 ^ i) = shl .i64 1 (i : Int) := by
        rw [if_pos (by rw [e]), shl_nat i (by omega), Int.one_mul]
        have h1 : 2 ^ i ≤ 2 ^ 60 := Nat.pow_le_pow_right (by decide) (by omega)
        have k1 : (2 : Nat) ^ 60 = 1152921504606846976 := by decide
        rw [k1] at h1
        have e2 : ((2 : Int) ^ i) = ((2 ^ i : Nat) : Int) := by push_cast; rfl
        rw [e2]
        generalize 2 ^ i = m at h1
        exact wrap_in (by omega) (by omega)
      rw [hp, or_step x i (hsm i x hI) (by omega)]
      exact y2
    · obtain ⟨y, y1, y2⟩ := ih (i + 1) x (by omega) (t2 e)
      refine ⟨y, y1, ?_⟩
      have hp : wrap64 ((if (r[i].toNat : Int) = (c.toNat : Int) then 1 else 0) * 2 ^ i) = ((0 : Nat) : Int) := by
        rw [if_neg (fun h => e (UInt8.toNat_inj.1 (by omega))), Int.zero_mul]
        exact wrap_in (by omega) (by omega)
      rw [hp, or_nat x 0 (Nat.lt_trans (hsm i x hI) (by decide)) (by decide), Nat.or_zero]
      exact y2
theorem join_flat (xs : List (List UInt8)) : Lib.join xs [] = xs.flatten := by
  induction xs with
  | nil => rfl
  | cons x xs ih =>
    unfold Lib.join at ih ⊢
    cases xs with
    | nil => simp [List.intercalate]
    | cons y ys =>
      simp only [List.intercalate, List.intersperse] at ih ⊢
      simp only [List.flatten_cons] at ih ⊢
      rw [ih]
      simp
/-- The lines' rows one behind the other. -/
theorem flat_get (L : Int) : ∀ (d j i k : Nat), j ≤ i → i < j + d → k < i → lt_ ((rowsT L d j).flatten) (tri i - tri j + k) = chL L k i
  | 0, _, _, _, _, h, _ => by omega
  | d + 1, j, i, k, h1, h2, h3 => by
    have hm : ∀ a b, a ≤ b → tri a ≤ tri b := by
      intro a b hab
      induction b with
      | zero => rw [show a = 0 by omega]; exact Nat.le_refl _
      | succ b ih =>
        by_cases e : a = b + 1
        · rw [e]; exact Nat.le_refl _
        · rw [tri_succ]
          have := ih (by omega)
          omega
    unfold lt_
    rw [rowsT, List.flatten_cons]
    by_cases e : i = j
    · subst e
      have := segL_get L i i 0 k h3
      unfold lt_ at this
      rw [Nat.sub_self, Nat.zero_add, List.getD_eq_getElem?_getD, List.getElem?_append_left (by rw [segL_len]; exact h3), ← List.getD_eq_getElem?_getD, this, Nat.zero_add]
    · have ih := flat_get L d (j + 1) i k (by omega) (by omega) h3
      unfold lt_ at ih
      have t1 := tri_succ j
      have t2 := hm (j + 1) i (by omega)
      have t3 := hm j i h1
      rw [List.getD_eq_getElem?_getD, List.getElem?_append_right (by rw [segL_len]; omega), segL_len, ← List.getD_eq_getElem?_getD, show tri i - tri j + k - j = tri i - tri (j + 1) + k by omega, ih]
theorem flat_len (L : Int) : ∀ d j, ((rowsT L d j).flatten).length = tri (j + d) - tri j
  | 0, j => by simp [rowsT]
  | d + 1, j => by
    rw [rowsT, List.flatten_cons, List.length_append, segL_len, flat_len L d (j + 1), show j + 1 + d = j + (d + 1) by omega, tri_succ]
    have : ∀ m, tri (j + 1) ≤ tri (j + 1 + m) := by
      intro m
      induction m with
      | zero => exact Nat.le_refl _
      | succ m ih =>
        have h2 := tri_succ (j + 1 + m)
        rw [show j + 1 + (m + 1) = (j + 1 + m) + 1 by omega]
        omega
    have h1 := this d
    rw [tri_succ j, show j + 1 + d = j + (d + 1) by omega] at h1
    omega
/-- Each place of the triangle is one of a row. -/
theorem tri_place (n pos : Nat) (h : pos < tri n) : ∃ j k, k < j ∧ j < n ∧ pos = tri j + k := by
  induction n with
  | zero => exact absurd h (by simp [tri])
  | succ n ih =>
    rw [tri_succ] at h
    by_cases c : pos < tri n
    · obtain ⟨j, k, h1, h2, h3⟩ := ih c
      exact ⟨j, k, h1, by omega, h3⟩
    · exact ⟨n, pos - tri n, by omega, by omega, by omega⟩
theorem segC_ascii (a b : Nat) : ∀ d i, ∀ x ∈ segC a b d i, x.toNat < 128
  | 0, _, x, h => by cases h
  | d + 1, i, x, h => by
    rw [segC, List.mem_cons] at h
    rcases h with rfl | h
    · unfold chC
      split
      · decide
      · split <;> decide
    · exact segC_ascii a b d (i + 1) x h
theorem segL_ascii (L : Int) (j : Nat) : ∀ d i, ∀ x ∈ segL L j d i, x.toNat < 128
  | 0, _, x, h => by cases h
  | d + 1, i, x, h => by
    rw [segL, List.mem_cons] at h
    rcases h with rfl | h
    · unfold chL
      split <;> decide
    · exact segL_ascii L j d (i + 1) x h
theorem rows_ascii (L : Int) : ∀ d j, ∀ x ∈ (rowsT L d j).flatten, x.toNat < 128
  | 0, _, x, h => by cases h
  | d + 1, j, x, h => by
    rw [rowsT, List.flatten_cons, List.mem_append] at h
    rcases h with h | h
    · exact segL_ascii L j j 0 x h
    · exact rows_ascii L d (j + 1) x h
/-- Of a field's text the program reads the field. -/
theorem impl_reads {p L a b : Nat} (h : Fld p L a b) : Ev (fun k => impl_ParseField.f k (BA (textT p L a b))) ((p : Int), (L : Int), (a : Int), (b : Int), 0) := by
  obtain ⟨s1, s2, s3⟩ := h.small
  have h1 := h.p1
  have h8 := h.p8
  have hrs := split_text p L a b
  have hlen := textT_len p L a b h8
  have k1 : (2 : Nat) ^ 61 = 2305843009213693952 := by decide
  have hparts : partsS 44 (BA (textT p L a b)) = BA (segC a b p 0) :: (rowsT (L : Int) (p - 1) 1).map BA := by rw [parts_eq, hrs, List.map_cons]
  have htp := tri_le p h8
  have hfl : ((rowsT (L : Int) (p - 1) 1).flatten).length = tri p := by
    rw [flat_len, show 1 + (p - 1) = p by omega]
    exact Nat.sub_zero _
  have hjoin : strings_Join.f ((rowsT (L : Int) (p - 1) 1).map BA) ⟨#[]⟩ = some (BA ((rowsT (L : Int) (p - 1) 1).flatten)) := by
    have e : ((rowsT (L : Int) (p - 1) 1).map BA).map (·.data.toList) = rowsT (L : Int) (p - 1) 1 := by
      rw [List.map_map]
      conv => rhs; rw [← List.map_id (rowsT (L : Int) (p - 1) 1)]
      exact List.map_congr_left fun x _ => BA_data x
    unfold strings_Join.f
    rw [e]
    show (if _ ∧ (Lib.join (rowsT (L : Int) (p - 1) 1) []).length ≤ _ then some (BA (Lib.join (rowsT (L : Int) (p - 1) 1) [])) else none) = _
    rw [join_flat, if_pos ⟨by rw [List.length_map, rowsT_len]; omega, by rw [hfl]; omega⟩]
  obtain ⟨R, r1, r2⟩ := sets_eq (segC a b p 0) (segC_ascii a b p 0) (by rw [segC_len]; omega) 114 (fun i x => x = a % 2 ^ i) (fun i x hx => by rw [k1, hx]; exact Nat.lt_of_le_of_lt (Nat.mod_le _ _) (by omega))
    (fun i x hi hx => by
      rw [segC_len] at hi
      rw [segC_get a b p 0 i hi, Nat.zero_add, hx]
      have c1 := (chC_r a b i (h.two.2.2 i)).1
      exact ⟨fun c => mod_on a i (c1.1 c), fun c => mod_off a i (by cases ha : a.testBit i; rfl; exact absurd (c1.2 ha) c)⟩) p 0 0 (by rw [segC_len]; omega) (by simp [Nat.mod_one])
  obtain ⟨B, b1, b2⟩ := sets_eq (segC a b p 0) (segC_ascii a b p 0) (by rw [segC_len]; omega) 98 (fun i x => x = b % 2 ^ i) (fun i x hx => by rw [k1, hx]; exact Nat.lt_of_le_of_lt (Nat.mod_le _ _) (by omega))
    (fun i x hi hx => by
      rw [segC_len] at hi
      rw [segC_get a b p 0 i hi, Nat.zero_add, hx]
      have c1 := (chC_r a b i (h.two.2.2 i)).2
      exact ⟨fun c => mod_on b i (c1.1 c), fun c => mod_off b i (by cases hb : b.testBit i; rfl; exact absurd (c1.2 hb) c)⟩) p 0 0 (by rw [segC_len]; omega) (by simp [Nat.mod_one])
  obtain ⟨M, m1, m2⟩ := sets_eq ((rowsT (L : Int) (p - 1) 1).flatten) (rows_ascii L (p - 1) 1) (by rw [hfl]; omega) 49 (fun i x => x = L % 2 ^ i) (fun i x hx => by rw [k1, hx]; exact Nat.lt_of_le_of_lt (Nat.mod_le _ _) (by omega))
    (fun i x hi hx => by
      rw [hfl] at hi
      obtain ⟨j, k, hk, hj, rfl⟩ := tri_place p i hi
      have hg := flat_get (L : Int) (p - 1) 1 j k (by omega) (by omega) hk
      rw [show tri 1 = 0 from rfl, Nat.sub_zero] at hg
      rw [hg, hx]
      unfold chL
      rw [jn_bit L k j (Nat.lt_trans s1 (by decide)) hk (by omega)]
      cases hb : L.testBit (tri j + k) with
      | true => exact ⟨fun _ => mod_on L _ hb, fun c => absurd rfl c⟩
      | false => exact ⟨fun c => absurd c (by decide), fun _ => mod_off L _ hb⟩) (tri p) 0 0 (by rw [hfl]; omega) (by simp [Nat.mod_one])
  rw [segC_len, Nat.mod_eq_of_lt h.two.1] at r1
  rw [segC_len, Nat.mod_eq_of_lt h.two.2.1] at b1
  rw [hfl, Nat.mod_eq_of_lt h.l] at m1
  subst r1 b1 m1
  unfold impl_ParseField.f
  rw [hparts]
  simp only [List.headD_cons, List.drop_succ_cons, List.drop_zero]
  have r2' : setsF (BA (segC R B p 0)) 114 64 p 0 0 = (R : Int) := r2
  have b2' : setsF (BA (segC R B p 0)) 98 64 p 0 0 = (B : Int) := b2
  have m2' : setsF (BA (rowsT (M : Int) (p - 1) 1).flatten) 49 64 (tri p) 0 0 = (M : Int) := m2
  simp only [hjoin, Option.bind_some, BA_size, segC_len, hfl, r2', b2', m2']
  refine evT (by omega) (evT ⟨h1, h8⟩ (evB (form_impl h.is ⟨h1, h8⟩ h.two) ?_))
  exact evT ⟨rfl, rfl⟩ (evS _)
theorem split_sum (c : UInt8) : ∀ (l cur : List UInt8), (splitQ c cur l).flatten.length ≤ cur.length + l.length
  | [], cur => by simp [splitQ]
  | b :: r, cur => by
    rw [splitQ]
    split
    · have := split_sum c r []
      simp at this ⊢
      omega
    · have := split_sum c r (cur ++ [b])
      simp at this ⊢
      omega
theorem isField_fld (P L R B : Int) (h : impl_IsField.f P L R B = some true) : ∃ p l a b : Nat, P = p ∧ L = l ∧ R = a ∧ B = b ∧ Fld p l a b := by
  obtain ⟨p0, p1⟩ := field_facts P L R B h
  obtain ⟨a, b, rfl, rfl, h2⟩ := field_two P L R B h
  obtain ⟨p, rfl⟩ := Int.eq_ofNat_of_zero_le (show 0 ≤ P by omega)
  have hT := trI_nat p (by omega)
  have htp := tri_le p (by omega)
  have e1 : wrap64 (shl .i64 1 (tri p : Int) - 1) = ((2 ^ tri p : Nat) : Int) - 1 := by
    rw [shl_nat _ (by omega)]
    have := pow28 (p := p) (by omega)
    have k1 : (2 : Nat) ^ 28 = 268435456 := by decide
    rw [k1] at this
    generalize 2 ^ tri p = m at this
    exact wrap_in (by omega) (by omega)
  have hL : ∃ l : Nat, L = l ∧ l < 2 ^ tri p := by
    unfold trI at hT
    unfold impl_IsField.f impl_pairs.f at h
    simp only [within_eq, Option.bind_some] at h
    rw [hT, e1, if_pos (decide_eq_true (show 1 ≤ (p : Int) ∧ (p : Int) ≤ 8 by omega)), if_pos (by omega)] at h
    by_cases c : 0 ≤ L ∧ L ≤ ((2 ^ tri p : Nat) : Int) - 1
    · obtain ⟨l, rfl⟩ := Int.eq_ofNat_of_zero_le c.1
      exact ⟨l, rfl, by omega⟩
    · rw [if_neg (by simpa using c)] at h
      cases h
  obtain ⟨l, rfl, hl⟩ := hL
  exact ⟨p, l, a, b, rfl, rfl, rfl, rfl, by omega, by omega, hl, by simpa using h2⟩
/-- Another text the program doesn't read. -/
theorem impl_none (l : List UInt8) (hl : l.length ≤ 1048576) (hn : ∀ p L a b, Fld p L a b → l ≠ textT p L a b) : Ev (fun k => impl_ParseField.f k (BA l)) (0, 0, 0, 0, 6) := by
  have hp := parts_eq 44 l
  have hlen := splitQ_len 44 l []
  have hcnt : l.count 44 ≤ l.length := List.count_le_length
  have hne := splitQ_ne 44 l []
  unfold impl_ParseField.f
  rw [hp, BA_size]
  have hfs := split_sum 44 l []
  generalize splitQ 44 [] l = rs at hlen hne hfs
  cases rs with
  | nil => exact absurd rfl hne
  | cons r0 rs =>
    simp only [List.map_cons, List.headD_cons, List.drop_succ_cons, List.drop_zero]
    refine evT (by omega) ?_
    by_cases h8 : 1 ≤ (BA r0).size ∧ (BA r0).size ≤ 8
    rotate_left
    · exact evF h8 (evS _)
    refine evT h8 ?_
    have e : (rs.map BA).map (·.data.toList) = rs := by
      rw [List.map_map]
      conv => rhs; rw [← List.map_id rs]
      exact List.map_congr_left fun x _ => BA_data x
    have hjoin : strings_Join.f (rs.map BA) ⟨#[]⟩ = some (BA rs.flatten) := by
      unfold strings_Join.f
      rw [e]
      show (if _ ∧ (Lib.join rs []).length ≤ _ then some (BA (Lib.join rs [])) else none) = _
      rw [join_flat, if_pos ⟨by simp at hlen ⊢; omega, by simp at hfs ⊢; omega⟩]
    refine evG hjoin ?_
    generalize setsF (BA rs.flatten) 49 64 (BA rs.flatten).size 0 0 = L
    generalize setsF (BA r0) 114 64 (BA r0).size 0 0 = R
    generalize setsF (BA r0) 98 64 (BA r0).size 0 0 = B
    generalize ((BA r0).size : Int) = P
    obtain ⟨t, c, _, h3⟩ := both_text P L R B
    refine evB h3 (evF ?_ (evS _))
    rintro ⟨hc, ht⟩
    simp only at hc ht
    subst hc
    obtain ⟨b, hb⟩ := field_total P L R B
    cases b with
    | false =>
      have h4 : Ev (fun k => impl_FieldText.f k P L R B) ((⟨#[]⟩ : ByteArray), 1) := by
        unfold impl_FieldText.f
        exact evG hb (evF (by decide) (evS _))
      have := ev_uniq h3 h4
      simp at this
    | true =>
      obtain ⟨p, l', a, b, rfl, rfl, rfl, rfl, hF⟩ := isField_fld P L R B hb
      have h4 := form_impl hb ⟨hF.p1, hF.p8⟩ hF.two
      have h5 := ev_uniq h3 h4
      simp only [Prod.mk.injEq, and_true] at h5
      rw [h5, BA_toList, BA_toList] at ht
      exact hn p l' a b hF ht.symm
end Go.Proofs.YtlmohkbimnhecaaGreatDoor.B
