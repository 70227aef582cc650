/-
  The law FnRaces told plainly: what is drawn, what both sides answer, what is asked of the answers.
-/
import Derived.Test.YtbmkhdeeengbmaaQ3
import Derived.Test.YtbmkhdeeengbmaaQ4
import Derived.Test.YtbmkhdeeengbmaaQ6b
import Derived.Test.YtbmkhdeeengbmaaQ5
import Derived.Test.YtbmkhdeeengbmaaQ1
import Derived.Test.YtbmkhdeeengbmaaRacePlay
import Derived.Test.YtbmkhdeeengbmaaRaceNet
namespace Go.Proofs.Ytbmkhdeeengbmaa.Q
open Go.RowKit Go.Proofs.YtbmkhdeeengbmaaW.PrintWords Go.Proofs.YtbmkhdeeengbmaaW.PrintLast Go.Proofs.YtbmkhdeeengbmaaW.PrintMore

/-- A best node is in range and free. -/
def freeOk (n a : Int) (x : Int) : Prop := (0 ≤ x ∧ x < n ∧ x ≤ 63) ∧ ¬ Go.bits .and .i64 (shr .i64 a x) 1 = 1
instance (n a x : Int) : Decidable (freeOk n a x) := by unfold freeOk; infer_instance
def oneOk (n a s r1 e1 : Int) (B : List Int) (st : Bool) : Prop := e1 = 0 → (st = true ∧ 1 ≤ B.length ∧ B.length ≤ 1000) ∧ ¬ (a = 0 ∧ s = 0 ∧ r1 < 0) ∧ ∀ x ∈ B, freeOk n (Go.bits .or .i64 a s) x
instance (n a s r1 e1 : Int) (B : List Int) (st : Bool) : Decidable (oneOk n a s r1 e1 B st) := by unfold oneOk; infer_instance
/-- The sets behind a play. -/
def setsF (n : Int) : List Int → Bool → Int → Int → Option (Int × Int)
  | [], _, a, b => some (a, b)
  | p :: l, e, a, b => if freeOk n (Go.bits .or .i64 a b) p then if e = true then setsF n l false (Go.bits .or .i64 a (shl .i64 1 p)) b else setsF n l true a (Go.bits .or .i64 b (shl .i64 1 p)) else none
def endOk (n : Int) (P : List Int) (pl e9 st0 e10 : Int) : Prop := e10 = 0 ∧ (e9 = 0 → pl = 0 ∧ st0 = 1) ∧ (¬ e9 = 0 → st0 = 0 ∧ (P.length : Int) = n)
instance (n : Int) (P : List Int) (pl e9 st0 e10 : Int) : Decidable (endOk n P pl e9 st0 e10) := by unfold endOk; infer_instance
def twoF (k : Nat) (n : Int) (L P : List Int) : Option Unit := if P.length ≤ 1000 then (setsF n P true 0 0).bind fun s => (impl_FilledLine.f k n L s.1 s.2).bind fun q => (impl_RaceResult.f k n L 0 0).bind fun z => if endOk n P q.1 q.2.2 z.1 z.2 then some () else none else none
def laws_FnRaces.f (k : Nat) (l0 : List Int) : Option Bool :=
  if (l0.length : Int) > 4096 then some true else
    (spec_DrawRaceResult.f k l0).bind fun b => (impl_RaceResult.f k b.1 b.2.1 b.2.2.1 b.2.2.2).bind fun r => (impl_BestNodes.f k b.1 b.2.1 b.2.2.1 b.2.2.2).bind fun be => (impl_IsState.f k b.1 b.2.1 b.2.2.1 b.2.2.2).bind fun st =>
      if ((spec_RaceResult.f k b.1 b.2.1 b.2.2.1 b.2.2.2 = some r ∧ spec_BestNodes.f k b.1 b.2.1 b.2.2.1 b.2.2.2 = some be) ∧ spec_IsState.f k b.1 b.2.1 b.2.2.1 b.2.2.2 = some st ∧ laws_likeInts.f k be.1 be.1 = some true) ∧ oneOk b.1 b.2.2.1 b.2.2.2 r.1 r.2 be.1 st.1 then
        (spec_DrawPlayRace.f k l0).bind fun c => (impl_PlayRace.f k c.1 c.2).bind fun pl =>
          if (spec_PlayRace.f k c.1 c.2 = some pl ∧ laws_likeInts.f k pl.1 pl.1 = some true) ∧ (pl.2 = 0 → twoF k c.1 c.2 pl.1 = some ()) then
            (spec_DrawFilledLine.f k l0).bind fun d => (impl_FilledLine.f k d.1 d.2.1 d.2.2.1 d.2.2.2).bind fun q => if spec_FilledLine.f k d.1 d.2.1 d.2.2.1 d.2.2.2 = some q then some true else none
          else none
      else none
theorem setsF_cons (n : Int) (p : Int) (l : List Int) (e : Bool) (a b : Int) : setsF n (p :: l) e a b = if freeOk n (Go.bits .or .i64 a b) p then if e = true then setsF n l false (Go.bits .or .i64 a (shl .i64 1 p)) b else setsF n l true a (Go.bits .or .i64 b (shl .i64 1 p)) else none := rfl
end Go.Proofs.Ytbmkhdeeengbmaa.Q
