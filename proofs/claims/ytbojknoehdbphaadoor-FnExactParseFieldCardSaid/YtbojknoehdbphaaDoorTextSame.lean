/-
  The texts of fields: program and reference write the same text and code. No condition.
-/
import Derived.Test.YtbojknoehdbphaaDoorFieldBits
import Derived.Test.YtbojknoehdbphaaDoorQ4
import Derived.Test.YtbojknoehdbphaaDoorQ2
namespace Go.Proofs.YtbojknoehdbphaaDoor.B
open Go.RowKit Go.Proofs.YtbojknoehdbphaaDoor.Q Go.Proofs.YtbojknoehdbphaaDoorW.PrintWords Go.Proofs.YtbojknoehdbphaaDoorW.PrintLast Go.Proofs.YtbojknoehdbphaaDoorW.PrintMore

theorem size_cat (x y : ByteArray) : (x ++ y).size = x.size + y.size := ByteArray.size_append
section
variable {P L : Int} {a b : Nat}
theorem text2 (hP : P ≤ 8) (j : Int) (hj : 1 ≤ j ∧ j < P) (e : Nat) (hnext : ∀ acc : ByteArray, acc.size ≤ e + j.toNat → ∃ t, Ev (fun k => spec_l05Text.l1 k acc (wrap64 (j + 1)) P L a b) t ∧ Ev (fun k => impl_FieldText.l1 k acc (wrap64 (j + 1)) P L a b) (t, 0)) (he : e ≤ 1000) (d : Nat) :
    ∀ (i : Int) (acc : ByteArray), 0 ≤ i → i + d = j → acc.size + d ≤ e + j.toNat → ∃ t, Ev (fun k => spec_l05Text.l2 k acc j i P L a b) t ∧ Ev (fun k => impl_FieldText.l2 k acc j j i P L a b) (t, 0) := by
  induction d with
  | zero =>
    intro i acc h0 hi hs
    obtain ⟨t, h1, h2⟩ := hnext acc (by omega)
    refine ⟨t, ?_, ?_⟩
    · refine evSucc (fun k => by rw [spec_l05Text.l2]) ?_
      exact evF (by omega) h1
    · refine evSucc (fun k => by rw [impl_FieldText.l2]) ?_
      exact evF (by omega) h2
  | succ d ih =>
    intro i acc h0 hi hs
    cases c : jn L i j with
    | true =>
      obtain ⟨t, h1, h2⟩ := ih (i + 1) (acc ++ ⟨#[49]⟩) (by omega) (by omega) (by rw [size_cat]; show acc.size + 1 + d ≤ _; omega)
      refine ⟨t, ?_, ?_⟩
      · refine evSucc (fun k => by rw [spec_l05Text.l2, wrap_in (x := i + 1) (by omega) (by omega)]) ?_
        refine evT (by omega) (evG (by rw [joins_spec P L a b i j (by omega) (by omega), c]) (evT rfl (evT (by omega) h1)))
      · refine evSucc (fun k => by rw [impl_FieldText.l2, wrap_in (x := i + 1) (by omega) (by omega)]) ?_
        refine evT (by omega) (evG (by rw [joins_impl P L a b i j (by omega) (by omega) (by omega), c]) (evG (o := impl_bit.f true) rfl (evG (o := impl_decimal.f 1) rfl (evT ?_ h2))))
        show acc.size + 1 ≤ _
        omega
    | false =>
      obtain ⟨t, h1, h2⟩ := ih (i + 1) (acc ++ ⟨#[48]⟩) (by omega) (by omega) (by rw [size_cat]; show acc.size + 1 + d ≤ _; omega)
      refine ⟨t, ?_, ?_⟩
      · refine evSucc (fun k => by rw [spec_l05Text.l2, wrap_in (x := i + 1) (by omega) (by omega)]) ?_
        refine evT (by omega) (evG (by rw [joins_spec P L a b i j (by omega) (by omega), c]) (evF (by decide) (evT (by omega) h1)))
      · refine evSucc (fun k => by rw [impl_FieldText.l2, wrap_in (x := i + 1) (by omega) (by omega)]) ?_
        refine evT (by omega) (evG (by rw [joins_impl P L a b i j (by omega) (by omega) (by omega), c]) (evG (o := impl_bit.f false) rfl (evG (o := impl_decimal.f 0) rfl (evT ?_ h2))))
        show acc.size + 1 ≤ _
        omega
theorem text1 (hP : P ≤ 8) (d : Nat) : ∀ (j : Int) (acc : ByteArray), 1 ≤ j → j + d = P → acc.size + 10 * d ≤ 900 → ∃ t, Ev (fun k => spec_l05Text.l1 k acc j P L a b) t ∧ Ev (fun k => impl_FieldText.l1 k acc j P L a b) (t, 0) := by
  induction d with
  | zero =>
    intro j acc h0 hj hs
    refine ⟨acc, ?_, ?_⟩
    · refine evSucc (fun k => by rw [spec_l05Text.l1]) ?_
      exact evF (by omega) (evS _)
    · refine evSucc (fun k => by rw [impl_FieldText.l1]) ?_
      exact evF (by omega) (evS _)
  | succ d ih =>
    intro j acc h0 hj hs
    have hz : (acc ++ (⟨#[44]⟩ : ByteArray)).size = acc.size + 1 := size_cat _ _
    obtain ⟨t, h1, h2⟩ := text2 (P := P) (L := L) (a := a) (b := b) hP j (by omega) (acc.size + 1) (fun acc' hs' => by
      rw [wrap_in (x := j + 1) (by omega) (by omega)]
      exact ih (j + 1) acc' (by omega) (by omega) (by omega)) (by omega) j.toNat 0 (acc ++ ⟨#[44]⟩) (by omega) (by omega) (by omega)
    refine ⟨t, ?_, ?_⟩
    · refine evSucc (fun k => by rw [spec_l05Text.l1]) ?_
      exact evT (by omega) (evT (by omega) h1)
    · refine evSucc (fun k => by rw [impl_FieldText.l1]) ?_
      exact evT (by omega) (evT (by omega) h2)
theorem text0 (hP : 1 ≤ P ∧ P ≤ 8) (h2 : Two P.toNat a b) (d : Nat) : ∀ (i : Int) (acc : ByteArray), 0 ≤ i → i + d = P → acc.size + d ≤ 100 → ∃ t, Ev (fun k => spec_l05Text.l0 k acc i P L a b) t ∧ Ev (fun k => impl_FieldText.l0 k acc P i P L a b) (t, 0) := by
  have hsm := h2.small (by omega)
  induction d with
  | zero =>
    intro i acc h0 hi hs
    obtain ⟨t, h1, h2⟩ := text1 (P := P) (L := L) (a := a) (b := b) hP.2 (P - 1).toNat 1 acc (by omega) (by omega) (by omega)
    refine ⟨t, ?_, ?_⟩
    · refine evSucc (fun k => by rw [spec_l05Text.l0]) ?_
      exact evF (by omega) h1
    · refine evSucc (fun k => by rw [impl_FieldText.l0]) ?_
      exact evF (by omega) h2
  | succ d ih =>
    intro i acc h0 hi hs
    have hc := col_dg a b i hsm.1 hsm.2 h0 (by omega)
    have ha := dig_bit a i hsm.1 h0 (by omega)
    have hb := dig_bit b i hsm.2 h0 (by omega)
    have h3 := h2.2.2 i.toNat
    unfold dg at hc h3
    have hu : IntKind.u64.wrap i = i := u64_at i h0 (by omega)
    have hone : ∀ c : UInt8, (acc ++ (⟨#[c]⟩ : ByteArray)).size = acc.size + 1 := fun c => size_cat _ _
    have key : ∀ (c : UInt8), (Go.Utf8.encode (bt (⟨#[46, 114, 98]⟩ : ByteArray) (col a b i))) = ⟨#[c]⟩ → 0 ≤ col a b i → col a b i < 3 →
        (∀ t, Ev (fun k => spec_l05Text.l0 k (acc ++ ⟨#[c]⟩) (i + 1) P L a b) t → Ev (fun k => spec_l05Text.l0 k acc i P L a b) t) →
        ∃ t, Ev (fun k => spec_l05Text.l0 k acc i P L a b) t ∧ Ev (fun k => impl_FieldText.l0 k acc P i P L a b) (t, 0) := by
      intro c e1 e2 e3 e4
      obtain ⟨t, h1, h2⟩ := ih (i + 1) (acc ++ ⟨#[c]⟩) (by omega) (by omega) (by rw [hone]; omega)
      refine ⟨t, e4 t h1, ?_⟩
      refine evSucc (fun k => by rw [impl_FieldText.l0, wrap_in (x := i + 1) (by omega) (by omega)]) ?_
      refine evT (by omega) (evG (colour_impl P L a b i h0) (evT e2 (evT e3 ?_)))
      rw [e1]
      refine evT ?_ h2
      show acc.size + 1 ≤ _
      omega
    cases ta : a.testBit i.toNat with
    | true =>
      cases tb : b.testBit i.toNat with
      | true => exact absurd (by rw [ta, tb]; rfl) h3
      | false =>
        rw [ta, tb] at hc
        rw [ta] at ha
        refine key 114 (by rw [hc]; decide +kernel) (by rw [hc]; decide) (by rw [hc]; decide) (fun t ht => ?_)
        refine evSucc (fun k => by rw [spec_l05Text.l0, wrap_in (x := i + 1) (by omega) (by omega), hu]) ?_
        exact evT (by omega) (evT h0 (evT (by rw [ha]; rfl) (evT (by omega) ht)))
    | false =>
      rw [ta] at ha
      cases tb : b.testBit i.toNat with
      | true =>
        rw [ta, tb] at hc
        rw [tb] at hb
        refine key 98 (by rw [hc]; decide +kernel) (by rw [hc]; decide) (by rw [hc]; decide) (fun t ht => ?_)
        refine evSucc (fun k => by rw [spec_l05Text.l0, wrap_in (x := i + 1) (by omega) (by omega), hu]) ?_
        exact evT (by omega) (evT h0 (evF (by rw [ha]; decide) (evT (by rw [hb]; rfl) (evT (by omega) ht))))
      | false =>
        rw [ta, tb] at hc
        rw [tb] at hb
        refine key 46 (by rw [hc]; decide +kernel) (by rw [hc]; decide) (by rw [hc]; decide) (fun t ht => ?_)
        refine evSucc (fun k => by rw [spec_l05Text.l0, wrap_in (x := i + 1) (by omega) (by omega), hu]) ?_
        exact evT (by omega) (evT h0 (evF (by rw [ha]; decide) (evF (by rw [hb]; decide) (evT (by omega) ht))))
end
theorem both_text (P L R B : Int) : ∃ (t : ByteArray) (c : Int), Ev (fun k => spec_FieldText.f k P L R B) (t, c) ∧ Ev (fun k => impl_FieldText.f k P L R B) (t, c) := by
  unfold spec_FieldText.f impl_FieldText.f
  rw [isField_same]
  obtain ⟨b, hb⟩ := field_total P L R B
  rw [hb]
  cases b with
  | false => exact ⟨⟨#[]⟩, 1, evG rfl (evF (by decide) (evS _)), evG rfl (evF (by decide) (evS _))⟩
  | true =>
    have hP := field_facts P L R B hb
    obtain ⟨m, n, rfl, rfl, h2⟩ := field_two P L R B hb
    obtain ⟨t, h1, h3⟩ := text0 (L := L) hP h2 P.toNat 0 ⟨#[]⟩ (by omega) (by omega) (by show 0 + P.toNat ≤ 100; omega)
    exact ⟨t, 0, evG rfl (evT rfl (evB (by unfold spec_l05Text.f; exact h1) (evS _))), evG rfl (evT rfl h3)⟩
end Go.Proofs.YtbojknoehdbphaaDoor.B
