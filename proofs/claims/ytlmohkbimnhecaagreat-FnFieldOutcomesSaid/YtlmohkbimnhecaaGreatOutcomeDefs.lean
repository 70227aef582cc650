/-
  What the law FnFieldOutcomes asks of a play and of fields, plainly. No condition.
-/
import Derived.Test.YtlmohkbimnhecaaGreatQ9
import Derived.Test.YtlmohkbimnhecaaGreatQ5
import Derived.Test.YtlmohkbimnhecaaGreatQ6
import Derived.Test.YtlmohkbimnhecaaGreatQ7
import Derived.Test.YtlmohkbimnhecaaGreatOutOutcome
import Derived.Test.YtlmohkbimnhecaaGreatOutMatching
namespace Go.Proofs.YtlmohkbimnhecaaGreat.Q
open Go.RowKit Go.Proofs.YtlmohkbimnhecaaGreatW.PrintWords Go.Proofs.YtlmohkbimnhecaaGreatW.PrintLast Go.Proofs.YtlmohkbimnhecaaGreatW.PrintMore
def movesF (k:Nat) (P L g:Int):List Int→Int→Int→Int→Prop
 |[],R,B,p=>impl_PointsFor.f k P L R B g p=some ([],0)
 |x::rest,R,B,p=>∃ R' B':Int,impl_ColourPoint.f k P L R B g p x=some (P,L,R',B',0)∧(p=0∨p=1)∧movesF k P L g rest R' B' (1-p)
structure PlayOk (k:Nat) (P L R B g p:Int) (bs ps:List Int) (a b:Bool):Prop where
 out:impl_OutcomeOf.f k P L R B g=some (a,b,0)
 turn:impl_ExchangeSides.f P L R B=some (P,L,B,R,0)
 back:impl_OutcomeOf.f k P L B R g=some (b,a,0)
 one:p=1→b=decide (0<bs.length)∧b=decide (ps.length%2=1)
 two:¬ p=1→a=decide (0<bs.length)∧a=decide (ps.length%2=1)
 short:ps.length≤1000
 moves:movesF k P L g ps R B p
def emptyOk (k:Nat) (x:Nat):Prop:=∃ (G:List (List Int)) (D:List Bool) (b:Bool),impl_OutcomeOf.f k x 0 0 0 ((x%2:Nat):Int)=some (b,b,0)∧impl_HeapGame.f k x [1]=some (G,0)∧impl_WonPlaces.f k G=some (D,0)∧0<D.length∧rdOf false D 0=b
def keptOk (k:Nat) (P L R B:Int) (l:List Int):Prop:=impl_IsMatching.f k P L R B l=some (true,0)∧∀ x:Nat,x<2→∃ (a b:Bool) (c:Int),impl_OutcomeOf.f k P L R B x=some (a,b,c)∧(c=0→a=false∧b=false)
end Go.Proofs.YtlmohkbimnhecaaGreat.Q
