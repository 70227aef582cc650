/-
  The contract of the law FnFields, out of its walk: when all that it asks holds, it answers so.
-/
import Derived.Test.YtlmohkbimnhecaaGreatDoorOutFields
namespace Go.Proofs.YtlmohkbimnhecaaGreatDoor.Q
open Go.RowKit Go.Proofs.YtlmohkbimnhecaaGreatDoorW.PrintWords Go.Proofs.YtlmohkbimnhecaaGreatDoorW.PrintLast Go.Proofs.YtlmohkbimnhecaaGreatDoorW.PrintMore

/-- All that the law asks. -/
def fieldsOk (k : Nat) (l : List Int) : Prop := (l.length : Int) > 4096 ∨ ∃ (fP fL fR fB gm pl pt nP nL nR nB e1 e3 mP mL mR mB hP hL hR hB uP uL uR uB e4 xP xL xR xB tP tL tR tB e5 dP dL dR dB x4 e6 jP jL jR jB x5 y5 e7 rP rL rR rB e8 e9 : Int) (S : List Int) (b0_ f6 f7 : Bool) (T6 T9 : ByteArray),
      (spec_DrawColourPoint.f k l = some (fP, fL, fR, fB, gm, pl, pt)) ∧
      (impl_ColourPoint.f k fP fL fR fB gm pl pt = some (nP, nL, nR, nB, e1)) ∧
      (spec_ColourPoint.f k fP fL fR fB gm pl pt = some (nP, nL, nR, nB, e1)) ∧
      (impl_PointsFor.f k fP fL fR fB gm pl = some (S, e3)) ∧
      (spec_PointsFor.f k fP fL fR fB gm pl = some (S, e3)) ∧
      (laws_likeInts.f k S S = some true) ∧
      (impl_IsField.f fP fL fR fB = some b0_) ∧
      (spec_IsField.f fP fL fR fB = some b0_) ∧
      (e1 = 0 → impl_IsFairField.f k nP nL nR nB gm = some (true, 0) ∧ ∃ X, impl_FieldText.f k nP nL nR nB = some (X, 0) ∧ impl_ParseField.f k X = some (nP, nL, nR, nB, 0) ∧ laws_hasInt.f k S pt = some true) ∧
      (spec_DrawUnionOf.f k l = some (mP, mL, mR, mB, hP, hL, hR, hB)) ∧
      (impl_UnionOf.f k mP mL mR mB hP hL hR hB = some (uP, uL, uR, uB, e4)) ∧
      (spec_UnionOf.f k mP mL mR mB hP hL hR hB = some (uP, uL, uR, uB, e4)) ∧
      (e4 = 0 → unionOk k mP mL mR mB hP hL hR hB uP uL uR uB) ∧
      (spec_DrawExchangeSides.f k l = some (xP, xL, xR, xB)) ∧
      (impl_ExchangeSides.f xP xL xR xB = some (tP, tL, tR, tB, e5)) ∧
      (spec_ExchangeSides.f xP xL xR xB = some (tP, tL, tR, tB, e5)) ∧
      (e5 = 0 → impl_ExchangeSides.f tP tL tR tB = some (xP, xL, xR, xB, 0)) ∧
      (spec_DrawIsFairField.f k l = some (dP, dL, dR, dB, x4)) ∧
      (impl_IsFairField.f k dP dL dR dB x4 = some (f6, e6)) ∧
      (spec_IsFairField.f k dP dL dR dB x4 = some (f6, e6)) ∧
      (spec_DrawAreJoined.f k l = some (jP, jL, jR, jB, x5, y5)) ∧
      (impl_AreJoined.f k jP jL jR jB x5 y5 = some (f7, e7)) ∧
      (spec_AreJoined.f jP jL jR jB x5 y5 = some (f7, e7)) ∧
      (spec_DrawParseField.f k l = some T6) ∧
      (impl_ParseField.f k T6 = some (rP, rL, rR, rB, e8)) ∧
      (spec_ParseField.f k T6 = some (rP, rL, rR, rB, e8)) ∧
      (impl_FieldText.f k xP xL xR xB = some (T9, e9)) ∧
      (spec_FieldText.f k xP xL xR xB = some (T9, e9))
noncomputable def laws_FnFields.f (k : Nat) (l : List Int) : Option Bool := @ite _ (fieldsOk k l) (Classical.propDecidable _) (some true) none
theorem laws_FnFields.calls (k : Nat) (A0 : Option Addr) (c0 : Nat) (l0 : List Int) (r : Bool) (w : World) (hr0 : Kd.C (Kd.int .u8) w A0 l0.length l0) (hc0 : l0.length ≤ c0) (h : laws_FnFields.f k l0 = some r) :
    Calls Tryz.prog 3 #[.slice A0 l0.length c0] w fun e w' => e = .returned (.bool r) ∧ Below w.heap.size w w' := by
  unfold laws_FnFields.f at h
  split at h
  · rename_i g
    obtain rfl := Option.some.inj h
    by_cases h0 : (l0.length : Int) > 4096
    · exact fields_big A0 c0 l0 w hr0 hc0 h0
    · obtain g | ⟨fP, fL, fR, fB, gm, pl, pt, nP, nL, nR, nB, e1, e3, mP, mL, mR, mB, hP, hL, hR, hB, uP, uL, uR, uB, e4, xP, xL, xR, xB, tP, tL, tR, tB, e5, dP, dL, dR, dB, x4, e6, jP, jL, jR, jB, x5, y5, e7, rP, rL, rR, rB, e8, e9, S, b0_, f6, f7, T6, T9, k0, k1, k2, k3, k4, k5, k6, k7, k8, k9, k10, k11, k12, k13, k14, k15, k16, k17, k18, k19, k20, k21, k22, k23, k24, k25, k26, k27⟩ := g
      · exact absurd g h0
      · exact fields_good k A0 c0 l0 fP fL fR fB gm pl pt nP nL nR nB e1 e3 mP mL mR mB hP hL hR hB uP uL uR uB e4 xP xL xR xB tP tL tR tB e5 dP dL dR dB x4 e6 jP jL jR jB x5 y5 e7 rP rL rR rB e8 e9 S b0_ f6 f7 T6 T9 w hr0 hc0 h0 ⟨k0⟩ ⟨k1⟩ ⟨k2⟩ ⟨k3⟩ ⟨k4⟩ ⟨k5⟩ ⟨k6⟩ ⟨k7⟩ ⟨k8⟩ ⟨k9⟩ ⟨k10⟩ ⟨k11⟩ ⟨k12⟩ ⟨k13⟩ ⟨k14⟩ ⟨k15⟩ ⟨k16⟩ ⟨k17⟩ ⟨k18⟩ ⟨k19⟩ ⟨k20⟩ ⟨k21⟩ ⟨k22⟩ ⟨k23⟩ ⟨k24⟩ ⟨k25⟩ ⟨k26⟩ ⟨k27⟩
  · cases h
end Go.Proofs.YtlmohkbimnhecaaGreatDoor.Q
