/-
  The pure statement of the law FnFieldOutcomes: who wins a field is told by best points and plays, exchanged sides exchange it, kept matchings help who does not begin, fields without lines are heaps, and both sides answer alike, whatever the code.
-/
import Derived.Test.YtlmohkbimnhecaaGreatOutOutcomesTop
import Derived.Test.YtlmohkbimnhecaaGreatOutcomeBoth
import Derived.Test.YtlmohkbimnhecaaGreatDrawGiven
import Derived.Test.YtlmohkbimnhecaaGreatBase
namespace Go.Proofs.YtlmohkbimnhecaaGreat.Pure
open Go.RowKit Go.Proofs.YtlmohkbimnhecaaGreat.Q Go.Proofs.YtlmohkbimnhecaaGreatW.PrintWords Go.Proofs.YtlmohkbimnhecaaGreatW.PrintLast Go.Proofs.YtlmohkbimnhecaaGreatW.PrintMore Go.Proofs.YtlmohkbimnhecaaGreat.B
theorem outcomes_ok (l:List Int) (hb:∀ x∈l,0≤x∧x≤255) (hl:l.length≤4096):∃ N,∀ k,N≤k→outcomesOk k l:=by
 obtain ⟨⟨fP,fL,fR,fB,gm,pl⟩,⟨N1,d1⟩,_⟩:=drawPlay_tot l hb hl
 obtain ⟨b,hf⟩:=field_total fP fL fR fB
 obtain ⟨P,hP,⟨N2,s1⟩,⟨N3,i1⟩,hPe⟩:=play_both fP fL fR fB gm pl b hf
 obtain ⟨B,hB,⟨N4,s2⟩,⟨N5,i2⟩,hBe⟩:=best_both fP fL fR fB gm pl b hf
 obtain ⟨N6,l1⟩:=like_same P (by omega)
 obtain ⟨N7,l2⟩:=like_same B (by omega)
 obtain ⟨N8,ho⟩:∃ N,∀ k,N≤k→(codeF fP fL fR fB gm pl b=0→∃ x y,PlayOk k fP fL fR fB gm pl B P x y):=by
  by_cases c:codeF fP fL fR fB gm pl b=0
  ·obtain ⟨rfl,_,_⟩:=codeF_zero fP fL fR fB gm pl b c
   obtain ⟨N,hN⟩:=play_ok hf c
   rw [← hPe c,← hBe c] at hN
   exact ⟨N,fun k hk _=>hN k hk⟩
  ·exact ⟨0,fun k _ h=>absurd h c⟩
 obtain ⟨⟨gP,gL,gR,gB⟩,⟨N9,d2⟩,_⟩:=drawKept_tot l hb hl
 obtain ⟨K,e10,hK,⟨N10,s3⟩,⟨N11,i3⟩,hKe⟩:=kept_both gP gL gR gB
 obtain ⟨N12,l3⟩:=like_same K (by omega)
 obtain ⟨N13,hk⟩:∃ N,∀ k,N≤k→(e10=0→keptOk k gP gL gR gB K):=by
  by_cases c:e10=0
  ·obtain ⟨hq,m,n,rfl,rfl,k1,k2,k3⟩:=hKe c
   obtain ⟨N,hN⟩:=kept_ok hq k1 k2 k3
   exact ⟨N,fun k h _=>hN k h⟩
  ·exact ⟨0,fun k _ h=>absurd h c⟩
 obtain ⟨N14,he⟩:=empty_ok
 obtain ⟨⟨hP1,hL1,hR1,hB1,hg1⟩,⟨N15,d3⟩,_⟩:=drawLeft_tot l hb hl
 obtain ⟨lo,hi,e17,⟨N16,s4⟩,⟨N17,i4⟩,hle⟩:=left_both hP1 hL1 hR1 hB1 hg1
 obtain ⟨⟨uP,uL,uR,uB,M⟩,⟨N18,d4⟩,hM⟩:=drawMatch_tot l hb hl
 obtain ⟨mb,e19,⟨N19,s5⟩,⟨N20,i5⟩⟩:=both_match uP uL uR uB M (Nat.le_trans hM (by decide))
 refine ⟨N1+N2+N3+N4+N5+N6+N7+N8+N9+N10+N11+N12+N13+N14+N15+N16+N17+N18+N19+N20,fun k hk2=>Or.inr ⟨fP,fL,fR,fB,gm,pl,codeF fP fL fR fB gm pl b,codeF fP fL fR fB gm pl b,gP,gL,gR,gB,e10,hP1,hL1,hR1,hB1,hg1,lo,hi,e17,uP,uL,uR,uB,e19,P,B,K,M,mb,?_,?_,?_,?_,?_⟩⟩
 ·exact ⟨d1 k (by omega),i1 k (by omega),s1 k (by omega),i2 k (by omega),s2 k (by omega),l1 k (by omega),l2 k (by omega),ho k (by omega)⟩
 ·exact ⟨d2 k (by omega),i3 k (by omega),s3 k (by omega),l3 k (by omega),hk k (by omega)⟩
 ·exact he k (by omega)
 ·exact ⟨d3 k (by omega),i4 k (by omega),s4 k (by omega),hle⟩
 ·exact ⟨d4 k (by omega),i5 k (by omega),s5 k (by omega)⟩
theorem FnFieldOutcomes (l:List Int) (_hm:l.length≤maxLen) (hw:∀ x∈l,(Lit.int .u8 x).wf=true):Ev (fun k=>laws_FnFieldOutcomes.f k l) true:=by
 have h:∃ N,∀ k,N≤k→outcomesOk k l:=by
  by_cases h0:(l.length:Int)>4096
  ·exact ⟨0,fun k _=>Or.inl h0⟩
  ·have hb:∀ x∈l,0≤x∧x≤255:=fun x hx=>by
    have hq:=hw x hx
    have e1:IntKind.u8.min=0:=by decide
    have e2:IntKind.u8.max=255:=by decide
    simp [Lit.wf] at hq
    rw [e1,e2] at hq
    exact hq
   exact outcomes_ok l hb (by omega)
 obtain ⟨N,hN⟩:=h
 exact ⟨N,fun k hk=>by unfold laws_FnFieldOutcomes.f;exact if_pos (hN k hk)⟩
end Go.Proofs.YtlmohkbimnhecaaGreat.Pure
