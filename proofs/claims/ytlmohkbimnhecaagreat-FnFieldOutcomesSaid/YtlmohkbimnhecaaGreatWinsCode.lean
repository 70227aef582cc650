/-
  What the program's 'fieldWins' reckons, without its store: at most d moves deep; with rounds k for the points. Fields of P points with the lines L alone, sets below 2^20, and no more than 16 points a move.
-/
import Derived.Test.YtlmohkbimnhecaaGreatOutPoints
import Derived.Test.YtlmohkbimnhecaaGreatHof
namespace Go.Proofs.YtlmohkbimnhecaaGreat.Q
open Go.RowKit Go.Proofs.YtlmohkbimnhecaaGreatW.PrintWords Go.Proofs.YtlmohkbimnhecaaGreatW.PrintLast Go.Proofs.YtlmohkbimnhecaaGreatW.PrintMore
def okI (x:Int):Prop:=(Lit.int .i64 x).wf=true
instance (x:Int):Decidable (okI x):=by unfold okI;infer_instance
def okS (P L R B p:Int):Prop:=okI P∧okI L∧(0≤R∧R<1048576)∧(0≤B∧B<1048576)∧(0≤p∧p≤1)
instance (P L R B p:Int):Decidable (okS P L R B p):=by unfold okS;infer_instance
def winsF (k:Nat) (g P L:Int):Nat→Int→Int→Int→Option Bool
 |0,_,_,_=>none
 |d+1,R,B,p=>
  if okS P L R B p then
   (impl_Field_points.f k P L R B g p).bind fun l=>
    if l.length≤16 then anyF (fun i=>(impl_Field_coloured.f P L R B p i).bind fun m=>(winsF k g P L d m.2.2.1 m.2.2.2 (wrap64 (1-p))).bind fun b=>some (!b)) l
    else none
  else none
theorem anyF_mono {p q:Int→Option Bool} (h:∀ i,LeO (p i) (q i)) (l:List Int):LeO (anyF p l) (anyF q l):=by
 induction l with
 |nil=>exact LeO.refl _
 |cons x l ih=>exact LeO.bind (h x) (fun b=>LeO.ite (LeO.refl _) ih)
theorem winsF_mono (g P L:Int) (d:Nat):∀ (k:Nat) (R B p:Int),LeO (winsF k g P L d R B p) (winsF (k+1) g P L d R B p):=by
 induction d with
 |zero=>intro k R B p;exact LeO.refl _
 |succ d ih=>
  intro k R B p
  exact LeO.ite (LeO.bind (impl_Field_points.mono _ _ _ _ _ _ k) (fun l=>LeO.ite (anyF_mono (fun i=>LeO.bind (LeO.refl _) (fun m=>LeO.bind (ih k _ _ _) (fun b=>LeO.refl _))) l) (LeO.refl _))) (LeO.refl _)
theorem winsF_deeper (k:Nat) (g P L:Int) (d:Nat):∀ (R B p:Int),LeO (winsF k g P L d R B p) (winsF k g P L (d+1) R B p):=by
 induction d with
 |zero=>intro R B p;exact LeO.none _
 |succ d ih=>
  intro R B p
  exact LeO.ite (LeO.bind (LeO.refl _) (fun l=>LeO.ite (anyF_mono (fun i=>LeO.bind (LeO.refl _) (fun m=>LeO.bind (ih _ _ _) (fun b=>LeO.refl _))) l) (LeO.refl _))) (LeO.refl _)
theorem winsF_upto (k:Nat) (g P L:Int) (d e:Nat) (R B p:Int):LeO (winsF k g P L d R B p) (winsF k g P L (d+e) R B p):=by
 induction e with
 |zero=>exact LeO.refl _
 |succ e ih=>exact LeO.trans ih (winsF_deeper k g P L (d+e) R B p)
theorem winsF_one (k:Nat) (g P L:Int) (d e:Nat) (R B p:Int) (r s:Bool) (h:winsF k g P L d R B p=some r) (h':winsF k g P L e R B p=some s):r=s:=by
 have h1:=winsF_upto k g P L d e R B p r h
 have h2:=winsF_upto k g P L e d R B p s h'
 rw [Nat.add_comm] at h2
 exact Option.some.inj (h1.symm.trans h2)
theorem winsF_ok (k:Nat) (g P L:Int) (d:Nat) (R B p:Int) (r:Bool) (h:winsF k g P L d R B p=some r):okS P L R B p:=by
 cases d with
 |zero=>cases h
 |succ d=>
  unfold winsF at h
  split at h
  ·assumption
  ·cases h
theorem coloured_form (P L R B p i:Int) (m:Int×Int×Int×Int) (h:impl_Field_coloured.f P L R B p i=some m):m=(P,L,m.2.2.1,m.2.2.2):=by
 unfold impl_Field_coloured.f at h
 repeat' split at h
 all_goals first|(obtain rfl:=Option.some.inj h;rfl)|cases h
end Go.Proofs.YtlmohkbimnhecaaGreat.Q
