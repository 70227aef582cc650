/-
  What the program's 'MovesLeft' reckons, without its store: at most d moves deep; with rounds k for the points. Fields of P points with the lines L alone, sets below 2^20, and no more than 16 points a move.
-/
import Derived.Test.YtlmohkbimnhecaaGreatWinsCode
namespace Go.Proofs.YtlmohkbimnhecaaGreat.Q
open Go.RowKit Go.Proofs.YtlmohkbimnhecaaGreatW.PrintWords Go.Proofs.YtlmohkbimnhecaaGreatW.PrintLast Go.Proofs.YtlmohkbimnhecaaGreatW.PrintMore
def leftL (f:Int→Option (Int×Int)):List Int→Bool→Int→Int→Option (Int×Int)
 |[],_,lo,hi=>some (lo,hi)
 |x::xs,first,lo,hi=>(f x).bind fun n=>leftL f xs false (if first=true then wrap64 (n.1+1) else if wrap64 (n.1+1)<lo then wrap64 (n.1+1) else lo) (mx hi (wrap64 (n.2+1)))
def leftF (k:Nat) (g P L:Int):Nat→Int→Int→Int→Option (Int×Int)
 |0,_,_,_=>none
 |d+1,R,B,p=>
  if okS P L R B p then
   (impl_Field_points.f k P L R B g p).bind fun l=>
    if l.length≤16 then leftL (fun i=>(impl_Field_coloured.f P L R B p i).bind fun m=>leftF k g P L d m.2.2.1 m.2.2.2 (wrap64 (1-p))) l true 0 0
    else none
  else none
theorem leftL_mono {p q:Int→Option (Int×Int)} (h:∀ i,LeO (p i) (q i)) (l:List Int):∀ (b:Bool) (x y:Int),LeO (leftL p l b x y) (leftL q l b x y):=by
 induction l with
 |nil=>intro b x y;exact LeO.refl _
 |cons z l ih=>intro b x y;exact LeO.bind (h z) (fun _=>ih _ _ _)
theorem leftF_mono (g P L:Int) (d:Nat):∀ (k:Nat) (R B p:Int),LeO (leftF k g P L d R B p) (leftF (k+1) g P L d R B p):=by
 induction d with
 |zero=>intro k R B p;exact LeO.refl _
 |succ d ih=>
  intro k R B p
  exact LeO.ite (LeO.bind (impl_Field_points.mono _ _ _ _ _ _ k) (fun _=>LeO.ite (leftL_mono (fun _=>LeO.bind (LeO.refl _) (fun _=>ih k _ _ _)) _ _ _ _) (LeO.refl _))) (LeO.refl _)
theorem leftF_deeper (k:Nat) (g P L:Int) (d:Nat):∀ (R B p:Int),LeO (leftF k g P L d R B p) (leftF k g P L (d+1) R B p):=by
 induction d with
 |zero=>intro R B p;exact LeO.none _
 |succ d ih=>
  intro R B p
  exact LeO.ite (LeO.bind (LeO.refl _) (fun _=>LeO.ite (leftL_mono (fun _=>LeO.bind (LeO.refl _) (fun _=>ih _ _ _)) _ _ _ _) (LeO.refl _))) (LeO.refl _)
theorem leftF_upto (k:Nat) (g P L:Int) (d e:Nat) (R B p:Int):LeO (leftF k g P L d R B p) (leftF k g P L (d+e) R B p):=by
 induction e with
 |zero=>exact LeO.refl _
 |succ e ih=>exact LeO.trans ih (leftF_deeper k g P L (d+e) R B p)
theorem leftF_one (k:Nat) (g P L:Int) (d e:Nat) (R B p:Int) (r s:Int×Int) (h:leftF k g P L d R B p=some r) (h':leftF k g P L e R B p=some s):r=s:=by
 have h1:=leftF_upto k g P L d e R B p r h
 have h2:=leftF_upto k g P L e d R B p s h'
 rw [Nat.add_comm] at h2
 exact Option.some.inj (h1.symm.trans h2)
theorem leftF_ok (k:Nat) (g P L:Int) (d:Nat) (R B p:Int) (r:Int×Int) (h:leftF k g P L d R B p=some r):okS P L R B p:=by
 cases d with
 |zero=>cases h
 |succ d=>
  unfold leftF at h
  split at h
  ·assumption
  ·cases h
end Go.Proofs.YtlmohkbimnhecaaGreat.Q
