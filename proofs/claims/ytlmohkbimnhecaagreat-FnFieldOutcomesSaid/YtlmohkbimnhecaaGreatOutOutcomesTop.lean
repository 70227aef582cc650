/-
  The contract of the law FnFieldOutcomes, out of its walk: when all that it asks holds, it answers so.
-/
import Derived.Test.YtlmohkbimnhecaaGreatOutOutcomes
namespace Go.Proofs.YtlmohkbimnhecaaGreat.Q
open Go.RowKit Go.Proofs.YtlmohkbimnhecaaGreatW.PrintWords Go.Proofs.YtlmohkbimnhecaaGreatW.PrintLast Go.Proofs.YtlmohkbimnhecaaGreatW.PrintMore
def outcomesOk (k:Nat) (l:List Int):Prop:=(l.length:Int)>4096∨∃ (fP fL fR fB gm pl e1 e3 gP gL gR gB e10 hP hL hR hB hg lo hi e17 uP uL uR uB e19:Int) (P B K M:List Int) (mb:Bool),
 (spec_DrawPlayField.f k l=some (fP,fL,fR,fB,gm,pl)∧impl_PlayField.f k fP fL fR fB gm pl=some (P,e1)∧spec_PlayField.f k fP fL fR fB gm pl=some (P,e1) ∧
  impl_BestPoints.f k fP fL fR fB gm pl=some (B,e3)∧spec_BestPoints.f k fP fL fR fB gm pl=some (B,e3)∧laws_likeInts.f k P P=some true∧laws_likeInts.f k B B=some true∧(e1=0→∃ a b,PlayOk k fP fL fR fB gm pl B P a b)) ∧
 (spec_DrawFindKept.f k l=some (gP,gL,gR,gB)∧impl_FindKept.f k gP gL gR gB=some (K,e10)∧spec_FindKept.f k gP gL gR gB=some (K,e10)∧laws_likeInts.f k K K=some true∧(e10=0→keptOk k gP gL gR gB K)) ∧
 (∀ x:Nat,1≤x→x≤5→emptyOk k x) ∧
 (spec_DrawMovesLeft.f k l=some (hP,hL,hR,hB,hg)∧impl_MovesLeft.f k hP hL hR hB hg=some (lo,hi,e17)∧spec_MovesLeft.f k hP hL hR hB hg=some (lo,hi,e17)∧lo≤hi) ∧
 (spec_DrawIsMatching.f k l=some (uP,uL,uR,uB,M)∧impl_IsMatching.f k uP uL uR uB M=some (mb,e19)∧spec_IsMatching.f k uP uL uR uB M=some (mb,e19))
noncomputable def laws_FnFieldOutcomes.f (k:Nat) (l:List Int):Option Bool:=@ite _ (outcomesOk k l) (Classical.propDecidable _) (some true) none
theorem laws_FnFieldOutcomes.calls (k:Nat) (A0:Option Addr) (c0:Nat) (l0:List Int) (r:Bool) (w:World) (hr0:Kd.C (Kd.int .u8) w A0 l0.length l0) (hc0:l0.length≤c0) (h:laws_FnFieldOutcomes.f k l0=some r):
 Calls Tryz.prog 3 #[.slice A0 l0.length c0] w fun e w'=>e=.returned (.bool r)∧Below w.heap.size w w':=by
 unfold laws_FnFieldOutcomes.f at h
 split at h
 ·rename_i g
  obtain rfl:=Option.some.inj h
  by_cases h0:(l0.length:Int)>4096
  ·exact outcomes_big A0 c0 l0 w hr0 hc0 h0
  ·obtain g|⟨fP,fL,fR,fB,gm,pl,e1,e3,gP,gL,gR,gB,e10,hP,hL,hR,hB,hg,lo,hi,e17,uP,uL,uR,uB,e19,P,B,K,M,mb,⟨a1,a2,a3,a4,a5,a6,a7,a8⟩,⟨b1,b2,b3,b4,b5⟩,c1,⟨d1,d2,d3,d4⟩,⟨f1,f2,f3⟩⟩:=g
   ·exact absurd g h0
   ·exact outcomes_good k A0 c0 l0 fP fL fR fB gm pl e1 e3 gP gL gR gB e10 hP hL hR hB hg lo hi e17 uP uL uR uB e19 P B K M mb w hr0 hc0 h0 ⟨a1⟩ ⟨a2⟩ ⟨a3⟩ ⟨a4⟩ ⟨a5⟩ ⟨a6⟩ ⟨a7⟩ ⟨a8⟩ ⟨b1⟩ ⟨b2⟩ ⟨b3⟩ ⟨b4⟩ ⟨b5⟩ ⟨c1⟩ ⟨d1⟩ ⟨d2⟩ ⟨d3⟩ ⟨d4⟩ ⟨f1⟩ ⟨f2⟩ ⟨f3⟩
 ·cases h
end Go.Proofs.YtlmohkbimnhecaaGreat.Q
