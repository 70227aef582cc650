/-
  Plain lemmas on 'Ev' (with enough rounds the printed function answers so).
  slices.IndexFunc and slices.ContainsFunc over []int64 with a predicate that captures nothing and only reads: whatever the predicate, they come to the plain search. The list within memory's reach.
  slices.IndexFunc and slices.ContainsFunc over []int64 with a predicate that captures variables and only reads: whatever the predicate, they come to the plain search. The list within memory's reach.
  slices.DeleteFunc over []int64 with a predicate that captures variables and only reads: whatever the predicate, it comes to the plain choice of what is kept. The row is the caller's own.
  slices.IndexFunc and slices.ContainsFunc over []int64 with a predicate that makes memory and may write one block of its own (a map): whatever the predicate, they come to the plain search, and what holds of the world behind each call of the predicate is handed on. The list within memory's reach.
  slices.DeleteFunc over []int64 with a predicate that makes memory and may write one block of its own (a map): whatever the predicate, it comes to the plain choice of what is kept, and what holds of the world behind each call of the predicate is handed on. The row is the caller's own.
  Plain lemmas: a search or a choice by a condition that is told at every element of a list, with enough rounds. No Go in them.
  A map that the call itself has made, as a store of right answers: every entry stands in a relation 'good' between its key and its value. The good keys are few; the keys of a kind that can be read.
  Plain: two sets of bits as a row of digits 0, 1, 2: how a digit turns when a bit is laid, how many digits are nought, and the number with these digits in base 3. No Go in it.
-/
import Derived.Test.YtlmohkbimnhecaaGreatQ0
import Derived.Shelf.Abstract
import Derived.Lib.SliceRun
import Derived.Maps.OwnSet
import Derived.Maps.OwnOps
import Derived.Below
import Init
namespace Go.Proofs.YtlmohkbimnhecaaGreat.B
open Go.RowKit Go.Proofs.YtlmohkbimnhecaaGreat.Q Go.Proofs.YtlmohkbimnhecaaGreatW.PrintWords Go.Proofs.YtlmohkbimnhecaaGreatW.PrintLast
theorem evS {α:Type} (r:α):Ev (fun _=>some r) r:=⟨0,fun _ _=>rfl⟩
theorem evE {α:Type} {g:Nat→Option α} {r r':α} (h:r=r') (k:Ev g r):Ev g r':=h▸k
theorem evT {α:Type} {c:Prop} [Decidable c] {g f:Nat→Option α} {r:α} (h:c) (k:Ev g r):Ev (fun n=>if c then g n else f n) r:=by
 obtain ⟨K,hK⟩:=k
 exact ⟨K,fun n hn=>(if_pos h).trans (hK n hn)⟩
theorem evF {α:Type} {c:Prop} [Decidable c] {g f:Nat→Option α} {r:α} (h:¬ c) (k:Ev f r):Ev (fun n=>if c then g n else f n) r:=by
 obtain ⟨K,hK⟩:=k
 exact ⟨K,fun n hn=>(if_neg h).trans (hK n hn)⟩
theorem evB {α β:Type} {g:Nat→Option α} {f:Nat→α→Option β} {a:α} {r:β} (h:Ev g a) (k:Ev (fun n=>f n a) r):Ev (fun n=>(g n).bind (f n)) r:=Ev.bind h k
theorem evG {α β:Type} {o:Option α} {f:Nat→α→Option β} {a:α} {r:β} (h:o=some a) (k:Ev (fun n=>f n a) r):Ev (fun n=>o.bind (f n)) r:=by
 subst h
 exact k
theorem evSucc {α:Type} {g f:Nat→Option α} {r:α} (h:∀ k,g (k+1)=f k) (k:Ev f r):Ev g r:=Ev.step h k
theorem wrap_in {x:Int} (h0 : -9223372036854775808≤x) (h1:x≤9223372036854775807):wrap64 x=x:=by
 unfold wrap64
 omega
end Go.Proofs.YtlmohkbimnhecaaGreat.B
namespace Go.Proofs.YtlmohkbimnhecaaGreat.Q
open Go.RowKit Go.Proofs.YtlmohkbimnhecaaGreatW.PrintWords Go.Proofs.YtlmohkbimnhecaaGreatW.PrintLast Go.Proofs.YtlmohkbimnhecaaGreatW.PrintMore
def idxF {α:Type} (p:α→Option Bool):List α→Int→Option Int
 |[],_=>some (-1)
 |x::xs,i=>(p x).bind fun b=>if b=true then some i else idxF p xs (i+1)
def anyF {α:Type} (p:α→Option Bool):List α→Option Bool
 |[]=>some false
 |x::xs=>(p x).bind fun b=>if b=true then some true else anyF p xs
theorem anyF_idxF {α:Type} (p:α→Option Bool) (l:List α):∀ (i:Int),0≤i→∀ b,anyF p l=some b→∃ r,idxF p l i=some r∧decide (0≤r)=b:=by
 induction l with
 |nil=>intro i hi b h;simp [anyF] at h;subst h;exact ⟨-1,rfl,by decide⟩
 |cons x xs ih=>
  intro i hi b h
  simp only [anyF] at h
  obtain ⟨q,hq,h⟩:=Option.bind_eq_some_iff.1 h
  by_cases e:q=true
  ·rw [if_pos e] at h
   simp at h
   subst h
   exact ⟨i,by simp [idxF,hq,e],by simpa using hi⟩
  ·rw [if_neg e] at h
   obtain ⟨r,h1,h2⟩:=ih (i+1) (by omega) b h
   exact ⟨r,by simp [idxF,hq,e,h1],h2⟩
end Go.Proofs.YtlmohkbimnhecaaGreat.Q
namespace Go.Proofs.YtlmohkbimnhecaaGreat.Q
open Go.RowKit Go.Proofs.YtlmohkbimnhecaaGreatW.PrintWords Go.Proofs.YtlmohkbimnhecaaGreatW.PrintLast Go.Proofs.YtlmohkbimnhecaaGreatW.PrintMore
end Go.Proofs.YtlmohkbimnhecaaGreat.Q
namespace Go.Proofs.YtlmohkbimnhecaaGreat.Q
open Go.RowKit Go.Proofs.YtlmohkbimnhecaaGreatW.PrintWords Go.Proofs.YtlmohkbimnhecaaGreatW.PrintLast Go.Proofs.YtlmohkbimnhecaaGreatW.PrintMore
def delP (p:Int→Option Bool):List Int→Option (List Int)
 |[]=>some []
 |x::xs=>(p x).bind fun b=>(delP p xs).bind fun l=>some (if b=true then l else x::l)
theorem delP_idxF (p:Int→Option Bool) (l:List Int):∀ (i:Int) (r:List Int),delP p l=some r →
 ∃ q,idxF p l i=some q∧((q = -1∧r=l)∨∃ (k:Nat) (rest:List Int),q=i+k∧k<l.length∧delP p (l.drop (k+1))=some rest∧r=l.take k++rest):=by
 induction l with
 |nil=>intro i r h;simp [delP] at h;exact ⟨-1,rfl,.inl ⟨rfl,h⟩⟩
 |cons x xs ih=>
  intro i r h
  simp only [delP] at h
  obtain ⟨b,hb,h⟩:=Option.bind_eq_some_iff.1 h
  obtain ⟨t,ht,h⟩:=Option.bind_eq_some_iff.1 h
  cases b with
  |true=>
   simp at h
   exact ⟨i,by simp [idxF,hb],.inr ⟨0,t,by omega,by simp,by simpa using ht,by simpa using h.symm⟩⟩
  |false=>
   simp at h
   obtain ⟨q,h1,h2⟩:=ih (i+1) t ht
   refine ⟨q,by simp [idxF,hb,h1],?_⟩
   rcases h2 with ⟨e,e2⟩|⟨k,rest,e,e2,e3,e4⟩
   ·exact .inl ⟨e,by rw [← h,e2]⟩
   ·exact .inr ⟨k+1,rest,by omega,by simp;omega,by simpa using e3,by rw [← h,e4];simp⟩
theorem R_zeros {base:Nat} {ok:Nat→Prop} {g n cap:Nat} (d:Nat):∀ (o:Nat) (W:World) (xs:List Int),Kd.R (Kd.int .i64) 2 W base ok (.slice (some ⟨g,0,none⟩) n cap) xs →
 ∃ xs':List Int,xs'.take o=xs.take o∧xs'.length=xs.length∧Kd.R (Kd.int .i64) 2 (W.setCells g o (List.replicate d (.int .i64 0))) base ok (.slice (some ⟨g,0,none⟩) n cap) xs'∧W.grownBy (W.setCells g o (List.replicate d (.int .i64 0))) (some g):=by
 induction d with
 |zero=>intro o W xs h;exact ⟨xs,rfl,rfl,h,⟨rfl,rfl,rfl,Nat.le_refl _,fun _ _ _=>rfl⟩⟩
 |succ d ih=>
  intro o W xs h
  have hp:=Kd.R_putg h (o:Int) 0
  rw [Int.toNat_natCast] at hp
  obtain ⟨xs',h1,h2,h3,h4⟩:=ih (o+1) _ _ hp.1
  refine ⟨xs',?_,by rw [h2];simp,h3,hp.2.trans h4⟩
  have e:=congrArg (List.take o) h1
  rw [List.take_take,List.take_take,Nat.min_eq_left (by omega)] at e
  rw [e,List.take_set,List.set_eq_of_length_le (by simp;omega)]
theorem wrap_next (n:Nat) (h:n<9223372036854775807):Value.int .i64 (wrap64 ((n:Int)+1))=.int .i64 ((n+1:Nat):Int):=by
 rw [Go.Proofs.YtlmohkbimnhecaaGreat.B.wrap_in (by omega) (by omega)]
 rfl
theorem zero_i64 (w:World):(zeroValue 2).run Tryz.prog w=.ok (.int .i64 0) w:=by kernel_rfl
end Go.Proofs.YtlmohkbimnhecaaGreat.Q
namespace Go.Proofs.YtlmohkbimnhecaaGreat.Q
open Go.RowKit Go.Proofs.YtlmohkbimnhecaaGreatW.PrintWords Go.Proofs.YtlmohkbimnhecaaGreatW.PrintLast Go.Proofs.YtlmohkbimnhecaaGreatW.PrintMore
theorem grown_below {w w':World} {row:Option Nat} (h:Below w.heap.size w w'):w.grownBy w' row:=⟨h.os,h.tape,h.output,h.size,fun k hk _=>h.block k hk⟩
theorem grown_then {a b c:World} {row:Option Nat} (h:a.grownBy b row) (k:b.grownBy c row):a.grownBy c row:=
 ⟨k.os.trans h.os,k.tape.trans h.tape,k.output.trans h.output,Nat.le_trans h.size k.size,fun i hi hn=>(k.block i (Nat.lt_of_lt_of_le hi h.size) hn).trans (h.block i hi hn)⟩
theorem grown_refl (w:World) (row:Option Nat):w.grownBy w row:=⟨rfl,rfl,rfl,Nat.le_refl _,fun _ _ _=>rfl⟩
theorem grown_drew {a b:World} {row:Option Nat} (h:a.grownBy b row):a.grownBy b.drew row:=⟨h.os,h.tape,h.output,h.size,h.block⟩
def PredInv (g:Nat) (lb:Array Value) (p:Int→Option Bool) (I:World→Prop) (row:Option Nat):Prop:=
 ∀ x b W,p x=some b→I W→Calls Tryz.prog g (#[.int .i64 x]++lb) W fun e w'=>e=.returned (.bool b)∧I w'∧W.grownBy w' row
set_option maxHeartbeats 2000000 in
theorem indexFunc_inv (g:Nat) (lb:Array Value) (eg:∀ args w,(callFunc g args).run Tryz.prog w=.ok (.enter g args) w) (p:Int→Option Bool) (I:World→Prop) (row:Option Nat)
 (A:Option Addr) (c:Nat) (l:List Int) (r:Int) (w:World)
 (hp:PredInv g lb p I row) (hC:∀ W,w.grownBy W row→Kd.C (Kd.int .i64) W A l.length l) (hI:I w) (hc:l.length≤c) (hm:l.length≤9223372036854775807) (h:idxF p l 0=some r):
 Calls Tryz.prog 92 #[.slice A l.length c,.func (.func g) #[] lb] w fun e w'=>e=.returned (.int .i64 r)∧w.grownBy w' row∧I w':=by
 have HR:=Aside0.mk hC
 have HP:=Aside0.mk hp
 have H:=Aside0.mk h
 have HC:=Aside0.mk hc
 have HI0:=Aside0.mk hI
 clear hC hp h hc hI
 go_enter Tryz.func92,Tryz.ntmps92
 go_wp2
 go_loopg [5,8] l.length (fun gg _ s8 wr=>∃ kk:Nat,kk≤l.length∧l.length-kk≤gg∧s8=.int .i64 kk∧Aside0 (w.grownBy wr row)∧Aside0 (I wr)∧Aside0 (idxF p (l.drop kk) kk=some r))
 case atStart=>exact ⟨0,Nat.zero_le _,by omega,rfl,⟨grown_refl _ _⟩,HI0,⟨by simpa using H.out⟩⟩
 case round=>
  obtain ⟨kk,hkk,hg,rfl,HD,HJ,HI⟩:=hrel
  clear H HI0
  by_cases hlt:kk<l.length
  ·have hltz:(kk:Int)<(l.length:Int):=by omega
   obtain ⟨b,hb,HI2⟩:∃ b,p l[kk]=some b∧Aside0 ((if b=true then some (kk:Int) else idxF p (l.drop (kk+1)) ((kk:Int)+1))=some r):=by
    have hI:=HI.out
    rw [List.drop_eq_getElem_cons hlt] at hI
    simp only [idxF] at hI
    obtain ⟨b,hb,hI2⟩:=Option.bind_eq_some_iff.1 hI
    exact ⟨b,hb,⟨hI2⟩⟩
   have hrw:=HR.out wr HD.out
   obtain ⟨ad,e,hx⟩:=Kd.at_int hrw kk (by omega) hltz
   have hy:rd l (kk:Int)=l[kk]:=by simp [rd,List.getD_eq_getElem?_getD,hlt]
   rw [hy,Int.toNat_natCast] at hx
   have hcall:=HP.out l[kk] b wr hb HJ.out
   generalize l[kk]=y at hx hcall
   cases e
   clear hb HI hrw hy HJ
   cases b with
   |true=>
    obtain rfl:(kk:Int)=r:=by simpa using HI2.out
    go_wp2_with (go_at_fn g;refine hcall.mono ?_;rintro e w' ⟨rfl,hj',hd'⟩)
    go_ret
    exact ⟨rfl,grown_then HD.out hd',hj'⟩
   |false=>
    go_wp2_with (go_at_fn g;refine hcall.mono ?_;rintro e w' ⟨rfl,hj',hd'⟩)
    go_roundg (l.length-(kk+1))
    case measure=>omega
    case rel=>exact ⟨kk+1,by omega,by omega,by go_num,⟨grown_then HD.out hd'⟩,⟨hj'⟩,⟨by simpa using HI2.out⟩⟩
  ·have hltz:¬ (kk:Int)<(l.length:Int):=by omega
   have HI2:Aside0 (-1=r):=⟨by
    have hI:=HI.out
    rw [List.drop_eq_nil_of_le (by omega)] at hI
    simpa only [idxF,Option.some.injEq] using hI⟩
   clear HI
   go_wp2
   go_ret
   exact ⟨congrArg (fun z=>Ending.returned (.int .i64 z)) HI2.out,HD.out,HJ.out⟩
theorem containsFunc_inv (g:Nat) (lb:Array Value) (eg:∀ args w,(callFunc g args).run Tryz.prog w=.ok (.enter g args) w) (p:Int→Option Bool) (I:World→Prop) (row:Option Nat)
 (A:Option Addr) (c:Nat) (l:List Int) (r:Bool) (w:World)
 (hp:PredInv g lb p I row) (hC:∀ W,w.grownBy W row→Kd.C (Kd.int .i64) W A l.length l) (hI:I w) (hc:l.length≤c) (hm:l.length≤9223372036854775807) (h:anyF p l=some r):
 Calls Tryz.prog 67 #[.slice A l.length c,.func (.func g) #[] lb] w fun e w'=>e=.returned (.bool r)∧w.grownBy w' row∧I w':=by
 obtain ⟨q,h1,h2⟩:=anyF_idxF p l 0 (by omega) r h
 have hcall:=indexFunc_inv g lb eg p I row A c l q w hp hC hI hc hm h1
 subst h2
 clear hC hc hp h h1 eg hI
 go_enter Tryz.func67,Tryz.ntmps67
 go_wp2_with (go_at_call 92;refine hcall.mono ?_;rintro e w' ⟨rfl,hd',hi⟩)
 go_ret
 exact ⟨rfl,hd',hi⟩
end Go.Proofs.YtlmohkbimnhecaaGreat.Q
namespace Go.Proofs.YtlmohkbimnhecaaGreat.Q
open Go.RowKit Go.Proofs.YtlmohkbimnhecaaGreatW.PrintWords Go.Proofs.YtlmohkbimnhecaaGreatW.PrintLast Go.Proofs.YtlmohkbimnhecaaGreatW.PrintMore
theorem own_apart {row:Option Nat} {P0:Nat→Prop} {B n:Nat} (h:∀ k,row=some k→B≤k∧k<n∧¬ P0 k):∀ k,(P0 k∨n≤k)→some k≠row:=by
 intro k hk e
 have:=h k e.symm
 rcases hk with h1|h1
 ·exact this.2.2 h1
 ·omega
set_option maxHeartbeats 4000000 in
set_option maxRecDepth 100000 in
theorem deleteFunc_inv (g:Nat) (lb:Array Value) (eg:∀ args w,(callFunc g args).run Tryz.prog w=.ok (.enter g args) w) (p:Int→Option Bool) (I:World→Prop) (row:Option Nat) (P0_:Nat→Prop) (u:Value) (l r:List Int) (w0 w:World)
 (hIg:∀ W W',I W→W.grownBy W' u.ownBlock→I W') (hI:I w) (hp:PredInv g lb p I row) (hrow:∀ k,row=some k→w0.heap.size≤k∧k<w.heap.size∧¬ P0_ k)
 (hB:Below w0.heap.size w0 w) (ho0:Kd.R (Kd.int .i64) 2 w w0.heap.size P0_ u l) (h:delP p l=some r):
 Calls Tryz.prog 69 #[u,.func (.func g) #[] lb] w fun e w'=>∃ v0_:Value,e=.returned v0_∧Kd.R (Kd.int .i64) 2 w' w0.heap.size (fun k_=>(P0_ k_∨w.heap.size≤k_)) v0_ r∧Below w0.heap.size w0 w'∧Kept w w' (fun k_=>P0_ k_∨some k_=row)∧I w':=by
 obtain ⟨q,hq,hcase⟩:=delP_idxF p l 0 r h
 obtain ⟨A,c,rfl,hlc,hC⟩:=Kd.R_reads ho0
 have hIF:=indexFunc_inv g lb eg p I row A c l q w hp (fun W hg=>(Kd.R_reads' (Kd.R_grown ho0 hg (fun k hk e=>(hrow k e.symm).2.2 hk))).2.2) hI hlc hC.2.1 hq
 have HO0:=Aside0.mk (show Kd.R (Kd.int .i64) 2 w w0.heap.size (fun k_=>(P0_ k_∨w.heap.size≤k_)) (.slice A l.length c) l from Kd.R_mono ho0 (fun k_ hk=>(.inl hk)))
 have HB:=Aside0.mk hB
 have HP:=Aside0.mk hp
 have HG:=Aside0.mk hIg
 have HI:=Aside0.mk hI
 have HL:=Aside0.mk hC.2.1
 have HW:=Aside0.mk hrow
 clear hp hIg hI hB hC hrow h hq ho0
 rcases hcase with ⟨rfl,rfl⟩|⟨k,rest,e1,hk,hrest,hr⟩
 ·go_enter Tryz.func69,Tryz.ntmps69
  go_wp2_with (go_at_call 92;refine hIF.mono ?_;rintro e w1 ⟨rfl,hd1,hi1⟩)
  go_ret
  exact ⟨_,rfl,Kd.R_grown HO0.out hd1 (own_apart HW.out),HB.out.grown hd1 HB.out.size (fun k e=>(HW.out k e).1),Kept.of_grown hd1 (Kept.refl _ _) (fun k e=>.inl (.inr e.symm)),hi1⟩
 ·have hne1:((k:Int) == -1)=false:=beq_eq_false_iff_ne.2 (by omega)
  obtain rfl:q=k:=by omega
  obtain ⟨go,co,eo,gb,gl,cl,hcl⟩:=Kd.R_form HO0.out (by omega)
  injection eo with ea en ec
  subst ea ec
  have GB:=Aside0.mk gb
  have HM:=Aside0.mk (HO0.out.1 go rfl)
  have HR2:=Aside0.mk hrest
  have HR:=Aside0.mk hr
  clear gb gl hcl hrest hr e1 en
  go_enter Tryz.func69,Tryz.ntmps69
  go_wp2_with (go_at_call 92;refine hIF.mono ?_;rintro e w1 ⟨rfl,hd1,hi1⟩)
  have HO1:=Aside0.mk (Kd.R_grown HO0.out hd1 (own_apart HW.out))
  have HB1:=Aside0.mk (HB.out.grown hd1 HB.out.size (fun k e=>(HW.out k e).1))
  have HK1:=Aside0.mk (Kept.of_grown hd1 (Kept.refl w (fun k_=>P0_ k_∨some k_=row)) (fun k e=>.inl (.inr e.symm)))
  have HI1:=Aside0.mk hi1
  clear HO0 HB HI hd1 hIF hi1
  go_loopg [5,6,7] l.length (fun gg s5 s6 _ wr=>∃ (i j:Nat) (dk t:List Int),s5=.int .i64 i∧s6=.int .i64 j∧i<j∧j≤l.length∧l.length-j≤gg∧dk.length=l.length∧Aside0 (Kd.R (Kd.int .i64) 2 wr w0.heap.size (fun k_=>(P0_ k_∨w.heap.size≤k_)) (.slice (some ⟨go,0,none⟩) l.length c) dk)∧Aside0 (I wr)∧Aside0 (Below w0.heap.size w0 wr)∧Aside0 (Kept w wr (fun k_=>P0_ k_∨some k_=row))∧Aside0 (dk.drop j=l.drop j)∧Aside0 (delP p (l.drop j)=some t∧r=dk.take i++t))
  case atStart=>exact ⟨k,k+1,l,rest,rfl,wrap_next _ (by have:=HL.out;omega),by omega,by omega,by omega,rfl,HO1,HI1,HB1,HK1,⟨rfl⟩,⟨HR2.out,HR.out⟩⟩
  case round=>
   clear HO1 HI1 HB1 HK1 HR2 HR
   obtain ⟨i,j,dk,t,rfl,rfl,hij,hjn,hgg,hdl,HO,HI,HB,HK,HD,HT⟩:=hrel
   by_cases hlt:j<l.length
   ·have hltz:(j:Int)<(l.length:Int):=by omega
    have hltz2:(i:Int)<(l.length:Int):=by omega
    obtain ⟨cj,fj⟩:=Kd.R_celln 0 HO.out (j:Int) (by omega) hltz
    obtain ⟨ci,fi⟩:=Kd.R_celln 0 HO.out (i:Int) (by omega) hltz2
    rw [Int.toNat_natCast] at cj fj ci fi
    have hgl:dk[j]'(by omega)=l[j]:=by
     have e:=congrArg (fun z=>z[0]?) HD.out
     simp only [List.getElem?_drop,Nat.add_zero] at e
     rw [List.getElem?_eq_getElem (by omega),List.getElem?_eq_getElem hlt] at e
     exact Option.some.inj e
    have hy:rdOf 0 dk (j:Int)=l[j]:=by rw [← hgl];simp [rdOf,List.getD_eq_getElem?_getD,show j<dk.length by omega]
    rw [hy] at cj
    obtain ⟨b,t',hb,HT2,HT3⟩:∃ b t',p l[j]=some b∧Aside0 (delP p (l.drop (j+1))=some t')∧Aside0 (t=if b=true then t' else l[j]::t'):=by
     have h1:=HT.out.1
     rw [List.drop_eq_getElem_cons hlt] at h1
     simp only [delP] at h1
     obtain ⟨b,hb,h1⟩:=Option.bind_eq_some_iff.1 h1
     obtain ⟨t',ht,h1⟩:=Option.bind_eq_some_iff.1 h1
     exact ⟨b,t',hb,⟨ht⟩,⟨(Option.some.inj h1).symm⟩⟩
    have HD2:Aside0 (dk.drop (j+1)=l.drop (j+1)):=⟨by
     have e:=congrArg (List.drop 1) HD.out
     simpa [List.drop_drop] using e⟩
    have hcall:=HP.out l[j] b wr hb HI.out
    generalize l[j]=y at cj hcall HT3
    clear hb hy hgl HD
    cases b with
    |true=>
     have HT4:Aside0 (r=dk.take i++t'):=⟨by have:=HT.out.2;have:=HT3.out;simp_all⟩
     clear HT HT3
     go_wp2_with (go_at_fn g;refine hcall.mono ?_;rintro e w' ⟨rfl,hj',hd⟩)
     go_roundg (l.length-(j+1))
     case measure=>omega
     case rel=>exact ⟨i,j+1,dk,t',rfl,wrap_next _ (by have:=HL.out;omega),by omega,by omega,by omega,hdl,⟨Kd.R_grown HO.out hd (own_apart HW.out)⟩,⟨hj'⟩,⟨HB.out.grown hd HB.out.size (fun k e=>(HW.out k e).1)⟩,⟨Kept.of_grown hd HK.out (fun k e=>.inl (.inr e.symm))⟩,HD2,⟨HT2.out,HT4.out⟩⟩
    |false=>
     have HT4:Aside0 (r=(dk.set i y).take (i+1)++t'):=⟨by
      have h1:=HT.out.2
      have h2:=HT3.out
      rw [h1,h2,List.take_succ_eq_append_getElem (by simp;omega)]
      rw [List.take_set,List.set_eq_of_length_le (by simp;omega)]
      simp⟩
     clear HT HT3
     go_wp2_with (go_at_fn g;refine hcall.mono ?_;rintro e w' ⟨rfl,hj',hd⟩;obtain ⟨ci',fi'⟩:=Kd.R_celln 0 (Kd.R_grown HO.out hd (own_apart HW.out)) (i:Int) (by omega) hltz2;rw [Int.toNat_natCast] at ci' fi')
     have HOm:=Kd.R_grown HO.out hd (own_apart HW.out)
     have hpp:=Kd.R_putg HOm (i:Int) y
     rw [Int.toNat_natCast] at hpp
     go_roundg (l.length-(j+1))
     case measure=>omega
     case rel=>
      refine ⟨i+1,j+1,dk.set i y,t',wrap_next _ (by have:=HL.out;omega),wrap_next _ (by have:=HL.out;omega),by omega,by omega,by omega,by simpa using hdl,⟨hpp.1⟩,⟨?_⟩,⟨?_⟩,⟨?_⟩,⟨?_⟩,⟨HT2.out,HT4.out⟩⟩
      ·exact HG.out _ _ hj' hpp.2
      ·exact below_set (HB.out.grown hd HB.out.size (fun k e=>(HW.out k e).1)) GB.out
      ·exact Kept.of_grown hpp.2 (Kept.of_grown hd HK.out (fun k e=>.inl (.inr e.symm))) (fun k e=>by have:=Option.some.inj e;subst this;exact HM.out.imp .inl id)
      ·rw [List.drop_set_of_lt (by omega)]
       exact HD2.out
   ·obtain rfl:j=l.length:=by omega
    have hltz:¬ ((l.length:Int)<(l.length:Int)):=by omega
    have HT5:Aside0 (r=dk.take i):=⟨by
     have h1:=HT.out.1
     rw [List.drop_length] at h1
     simp only [delP,Option.some.injEq] at h1
     have h2:=HT.out.2
     rw [← h1,List.append_nil] at h2
     exact h2⟩
    have hcl:∀ ty,(Builtin.clear_ #[28] ty #[.slice (some ⟨go,i,none⟩) (l.length-i) (c-i)]).run Tryz.prog wr=.ok (.tuple #[]) (wr.setCells go i (List.replicate (l.length-i) (.int .i64 0))):=fun ty=>
     Lib.run_clear_slice wr _ _ ty _ Tryz.underlying28 zero_i64 rfl rfl go i _ _ (by omega)
      (fun x hx=>by have:=(Kd.R_celln 0 HO.out ((i+x:Nat):Int) (by omega) (by omega)).1;rw [Int.toNat_natCast] at this;rw [this];rfl)
      (fun x hx=>by have:=(Kd.R_celln 0 HO.out ((i+x:Nat):Int) (by omega) (by omega)).2;rw [Int.toNat_natCast] at this;exact this)
    obtain ⟨dk2,z1,z2,z3,z4⟩:=R_zeros (l.length-i) i wr dk HO.out
    have hz2:dk2.length=l.length:=by omega
    have HZ:=Aside0.mk (And.intro z1 (And.intro z3 z4))
    clear z1 z2 z3 z4 HT
    go_wp2
    go_ret
    refine ⟨_,rfl,?_,?_,?_,HG.out _ _ HI.out HZ.out.2.2⟩
    ·rw [HT5.out,← HZ.out.1]
     exact Kd.R_take HZ.out.2.1 (by omega)
    ·have z4:=HZ.out.2.2
     exact HB.out.trans ⟨z4.os,z4.tape,z4.output,z4.size,fun k hk=>z4.block k (Nat.lt_of_lt_of_le hk HB.out.size) (fun e=>by have:=Option.some.inj e;have:=GB.out;omega)⟩
    ·exact Kept.of_grown HZ.out.2.2 HK.out (fun k e=>by have:=Option.some.inj e;subst this;exact HM.out.imp .inl id)
end Go.Proofs.YtlmohkbimnhecaaGreat.Q
namespace Go.Proofs.YtlmohkbimnhecaaGreat.B
open Go.RowKit Go.Proofs.YtlmohkbimnhecaaGreat.Q Go.Proofs.YtlmohkbimnhecaaGreatW.PrintWords Go.Proofs.YtlmohkbimnhecaaGreatW.PrintLast
theorem anyF_ev (p:Nat→Int→Option Bool) (q:Int→Bool) (l:List Int):(∀ x,x∈l→Ev (fun k=>p k x) (q x))→Ev (fun k=>anyF (p k) l) (l.any q):=by
 induction l with
 |nil=>intro h;exact evS _
 |cons x l ih=>
  intro h
  have e:=ih (fun y hy=>h y (List.mem_cons_of_mem _ hy))
  simp only [anyF,List.any_cons]
  refine evB (h x List.mem_cons_self) ?_
  cases q x with
  |true=>exact evT rfl (evS _)
  |false=>exact evF (by simp) (evE (by simp) e)
theorem delP_ev (p:Nat→Int→Option Bool) (q:Int→Bool) (l:List Int):(∀ x,x∈l→Ev (fun k=>p k x) (q x))→Ev (fun k=>delP (p k) l) (l.filter (fun x => !q x)):=by
 induction l with
 |nil=>intro h;exact evS _
 |cons x l ih=>
  intro h
  have e:=ih (fun y hy=>h y (List.mem_cons_of_mem _ hy))
  simp only [delP,List.filter_cons]
  refine evB (h x List.mem_cons_self) (evB e ?_)
  cases q x with
  |true=>exact evE (by simp) (evS _)
  |false=>exact evE (by simp) (evS _)
end Go.Proofs.YtlmohkbimnhecaaGreat.B
namespace Go.Proofs.YtlmohkbimnhecaaGreat.Q
open Go.RowKit
open Go.Maps (Keyed)
def anyV (_:Value):Option (DataW Unit×List MemPlace):=some (.nil,[])
def Memo (P:Program) (k:TypeId) (good:Value→Value→Prop) (w:World) (b:Nat):Prop:=
 ∃ es clock,w.heap[b]?=some (.map es clock)∧WideElems.Fit P k anyV es clock∧∀ x∈es.toList,good x.key x.val
variable {P:Program} {k:TypeId} {good:Value→Value→Prop} {w:World} {b:Nat}
theorem Memo.made (w:World) (P:Program) (k:TypeId) (good:Value→Value→Prop):Memo P k good (w.alloc (.map #[] 0)) w.heap.size:=
 ⟨#[],0,(MapKept.heap_alloc w _).1,⟨by simp,MapKept.stamped_empty 0,by simp⟩,by simp⟩
theorem Memo.lt (h:Memo P k good w b):b<w.heap.size:=by
 obtain ⟨es,clock,hb,_⟩:=h
 exact (Array.getElem?_eq_some_iff.1 hb).1
theorem Memo.at {w':World} (h:Memo P k good w b) (e:w'.heap[b]?=w.heap[b]?):Memo P k good w' b:=by
 obtain ⟨es,clock,hb,F,hg⟩:=h
 exact ⟨es,clock,e.trans hb,F,hg⟩
theorem Memo.kept {w':World} {row:Option Nat} (h:Memo P k good w b) (hg:w.grownBy w' row) (hne:some b≠row):Memo P k good w' b:=h.at (hg.block b h.lt hne)
theorem Memo.below {w':World} (h:Memo P k good w b) (hb:Below w.heap.size w w'):Memo P k good w' b:=h.at (hb.block b h.lt)
theorem Memo.look {t e:TypeId} (h:Memo P k good w b) (K:Keyed P k) (ht:P.underlying t=some (.map k e)) {z:Value} (hz:(zeroValue e).run P w=.ok z w) {key:Value} {kl:Lit} (hkey:keyOf P k key=some kl):
 (Instr.lookup t (.map (some b)) key true).run P w=.ok (.tuple #[z,.bool false]) w∨∃ v,(Instr.lookup t (.map (some b)) key true).run P w=.ok (.tuple #[v,.bool true]) w∧good key v:=by
 obtain ⟨es,clock,hb,F,hg⟩:=h
 rcases Maps.fit_look true K ht hz hb F hkey with ⟨hrun,_⟩|⟨e0,y,he,hk,hrun,_⟩
 ·exact Or.inl hrun
 ·exact Or.inr ⟨e0.val,hrun,hk▸hg e0 he⟩
theorem pigeon:∀ (N:Nat) (l:List Nat),l.Nodup→(∀ x∈l,x<N)→l.length≤N
 |0,l,_,h=>by
  cases l with
  |nil=>simp
  |cons x l=>exact absurd (h x List.mem_cons_self) (by omega)
 |N+1,l,hd,h=>by
  by_cases hN:N∈l
  ·have:=pigeon N (l.erase N) (hd.erase N) (fun x hx=>by
    have hx':=(hd.mem_erase_iff).1 hx
    have:=h x hx'.2
    omega)
   rw [List.length_erase_of_mem hN] at this
   omega
  ·have:=pigeon N l hd (fun x hx=>by
    have:=h x hx
    have:x≠N:=fun e=>hN (e▸hx)
    omega)
   omega
def Few (good:Value→Value→Prop):Prop:=∃ (code:Value→Nat) (N:Nat),N<maxLen∧(∀ x v,good x v→code x<N)∧∀ x v y u,good x v→good y u→code x=code y→x=y
theorem Few.size {good:Value→Value→Prop} (hfew:Few good) {es:Array MapEntry} {clock:Nat} (F:WideElems.Fit P k anyV es clock) (hg:∀ x∈es.toList,good x.key x.val):es.size<maxLen:=by
 obtain ⟨code,N,hN,h1,h2⟩:=hfew
 have hn:=((MapKept.stamped_iff es clock).1 F.stamped).2.2
 have hd:(es.toList.map (fun x=>code x.key)).Nodup:=by
  unfold List.Nodup
  rw [List.pairwise_map]
  refine hn.imp_of_mem ?_
  intro a b ha hb h e
  exact h (h2 _ _ _ _ (hg a ha) (hg b hb) e)
 have:=pigeon N _ hd (fun y hy=>by
  obtain ⟨x,hx,rfl⟩:=List.mem_map.1 hy
  exact h1 _ _ (hg x hx))
 simp at this
 omega
theorem Memo.store {t e:TypeId} (h:Memo P k good w b) (hfew:Few good) (K:Keyed P k) (ht:P.underlying t=some (.map k e)) {key val:Value} {kl:Lit} (hkey:keyOf P k key=some kl) (hgood:good key val):
 ∃ w',(Instr.mapUpdate t (.map (some b)) key val).run P w=.ok () w'∧Memo P k good w' b∧w.grownBy w' (some b):=by
 obtain ⟨es,clock,hb,F,hg⟩:=h
 obtain ⟨es',clock',hrun,F',_,_,_,hall⟩:=Maps.fit_store (R':=anyV) K ht hb F (hfew.size F hg) (fun _ _ _ _ hz=>hz) hkey (val:=val) (yv:=(.nil,[])) rfl
 refine ⟨_,hrun,⟨es',clock',ChangeMaps.heap_setBlock_same hb _,F',fun x hx=>?_⟩,⟨rfl,rfl,rfl,by simp [ChangeMaps.setBlock],fun i _ hi=>ChangeMaps.heap_setBlock_other hb _ (fun e=>hi (by rw [e]))⟩⟩
 rcases hall x hx with ⟨h1,_⟩|⟨h1,h2⟩
 ·exact hg x h1
 ·rw [h1,h2]
  exact hgood
theorem wpList_mapUpdate_memo (w:World) {ops:Array Oper} {rest:List Oper} {o:Oper} {a:Act} {Q:Exit→Act→World→Prop} (hg:o.guard=none) (m x v:Operand) (t:TypeId) (hop:o.op=Op.mapUpdate t m x v)
 (k e:TypeId) (K:Keyed P k) (ht:P.underlying t=some (.map k e)) (good:Value→Value→Prop) (b:Nat)
 (hm:a.eval m=.map (some b)) (hown:Memo P k good w b) (hfew:Few good) (key val:Value) (kl:Lit) (hx:a.eval x=key) (hv:a.eval v=val) (hkey:keyOf P k key=some kl) (hgood:good key val)
 (hK:∀ w',Memo P k good w' b→w.grownBy w' (some b)→wpList P ops Q rest (a.put o.dst undef) w'):
 wpList P ops Q (o::rest) a w:=by
 refine wpList_plain hg fun K' hK'=>?_
 obtain ⟨w',hrun,r1,r2⟩:=hown.store hfew K ht hkey hgood
 unfold Oper.wp
 simp [execOp,hop,hm,hx,hv,hrun,Result.andThen]
 exact hK' _ _ (hK w' r1 r2)
end Go.Proofs.YtlmohkbimnhecaaGreat.Q
namespace Go.Proofs.YtlmohkbimnhecaaGreat.B
def dg (a b i:Nat):Nat:=(a.testBit i).toNat+2*(b.testBit i).toNat
theorem dg_zero (a b i:Nat):dg a b i=0↔a.testBit i=false∧b.testBit i=false:=by
 unfold dg
 cases a.testBit i<;>cases b.testBit i<;>simp
theorem dg_three (a b i:Nat):dg a b i≠3↔¬ (a.testBit i=true∧b.testBit i=true):=by
 unfold dg
 cases a.testBit i<;>cases b.testBit i<;>simp
theorem dg_inj (a b c d i:Nat) (h:dg a b i=dg c d i):a.testBit i=c.testBit i∧b.testBit i=d.testBit i:=by
 unfold dg at h
 cases ha:a.testBit i<;>cases hb:b.testBit i<;>cases hc:c.testBit i<;>cases hd:d.testBit i<;>simp_all
theorem or_bit (a i j:Nat):(a|||2 ^ i).testBit j=(a.testBit j||decide (i=j)):=by rw [Nat.testBit_or,Nat.testBit_two_pow]
theorem dg_left (a b i j:Nat) (h:dg a b i=0):dg (a|||2 ^ i) b j=if j=i then 1 else dg a b j:=by
 have h0:=(dg_zero a b i).1 h
 unfold dg
 rw [or_bit]
 by_cases e:j=i
 ·subst e
  simp [h0]
 ·rw [if_neg e,decide_eq_false (fun c=>e c.symm),Bool.or_false]
theorem dg_right (a b i j:Nat) (h:dg a b i=0):dg a (b|||2 ^ i) j=if j=i then 2 else dg a b j:=by
 have h0:=(dg_zero a b i).1 h
 unfold dg
 rw [or_bit]
 by_cases e:j=i
 ·subst e
  simp [h0]
 ·rw [if_neg e,decide_eq_false (fun c=>e c.symm),Bool.or_false]
def Two (n a b:Nat):Prop:=a<2 ^ n∧b<2 ^ n∧∀ i,dg a b i≠3
theorem or_lt (n a i:Nat) (ha:a<2 ^ n) (hi:i<n):a|||2 ^ i<2 ^ n:=Nat.or_lt_two_pow ha (Nat.pow_lt_pow_right (by decide) hi)
theorem Two.left {n a b i:Nat} (h:Two n a b) (hi:i<n) (h0:dg a b i=0):Two n (a|||2 ^ i) b:=
 ⟨or_lt n a i h.1 hi,h.2.1,fun j=>by rw [dg_left a b i j h0];split;decide;exact h.2.2 j⟩
theorem Two.right {n a b i:Nat} (h:Two n a b) (hi:i<n) (h0:dg a b i=0):Two n a (b|||2 ^ i):=
 ⟨h.1,or_lt n b i h.2.1 hi,fun j=>by rw [dg_right a b i j h0];split;decide;exact h.2.2 j⟩
theorem dg_le (a b i:Nat):dg a b i≤3:=by
 unfold dg
 cases a.testBit i<;>cases b.testBit i<;>simp
theorem bit_ge (n a i:Nat) (ha:a<2 ^ n) (hi:n≤i):a.testBit i=false:=Nat.testBit_lt_two_pow (Nat.lt_of_lt_of_le ha (Nat.pow_le_pow_right (by decide) hi))
theorem two_of_and (n a b:Nat) (ha:a<2 ^ n) (hb:b<2 ^ n) (h:a&&&b=0):Two n a b:=by
 refine ⟨ha,hb,fun i=>(dg_three a b i).2 (fun c=>?_)⟩
 have e:(a&&&b).testBit i=false:=by rw [h];exact Nat.zero_testBit i
 rw [Nat.testBit_and,c.1,c.2] at e
 cases e
def fr (a b:Nat):Nat→Nat
 |0=>0
 |n+1=>fr a b n+if dg a b n=0 then 1 else 0
theorem fr_le (a b:Nat):∀ n,fr a b n≤n
 |0=>Nat.le_refl _
 |n+1=>by
  have:=fr_le a b n
  unfold fr
  split<;>omega
theorem fr_turn (a b a' b' i v:Nat) (hv:v≠0) (h0:dg a b i=0) (h:∀ j,dg a' b' j=if j=i then v else dg a b j):∀ n,fr a' b' n+(if i<n then 1 else 0)=fr a b n
 |0=>by simp [fr]
 |n+1=>by
  have ih:=fr_turn a b a' b' i v hv h0 h n
  unfold fr
  rw [h n]
  by_cases e:n=i
  ·subst e
   rw [if_pos rfl,if_neg hv,if_pos (show n<n+1 by omega),h0,if_pos rfl]
   rw [if_neg (by omega)] at ih
   omega
  ·rw [if_neg e]
   by_cases c:i<n
   ·rw [if_pos c] at ih
    rw [if_pos (show i<n+1 by omega)]
    omega
   ·rw [if_neg c] at ih
    rw [if_neg (show ¬ i<n+1 by omega)]
    omega
theorem fr_left (n a b i:Nat) (hi:i<n) (h0:dg a b i=0):fr (a|||2 ^ i) b n+1=fr a b n:=by
 have:=fr_turn a b (a|||2 ^ i) b i 1 (by decide) h0 (fun j=>dg_left a b i j h0) n
 rw [if_pos hi] at this
 exact this
theorem fr_right (n a b i:Nat) (hi:i<n) (h0:dg a b i=0):fr a (b|||2 ^ i) n+1=fr a b n:=by
 have:=fr_turn a b a (b|||2 ^ i) i 2 (by decide) h0 (fun j=>dg_right a b i j h0) n
 rw [if_pos hi] at this
 exact this
theorem fr_pos (n a b i:Nat) (hi:i<n) (h0:dg a b i=0):0<fr a b n:=by
 have:=fr_left n a b i hi h0
 omega
def pl3 (a b:Nat):Nat→Nat
 |0=>0
 |n+1=>pl3 a b n*3+dg a b n
theorem pl3_lt (a b:Nat) (h:∀ i,dg a b i≠3):∀ n,pl3 a b n<3 ^ n
 |0=>by simp [pl3]
 |n+1=>by
  have:=pl3_lt a b h n
  have:=h n
  have:=dg_le a b n
  unfold pl3
  rw [Nat.pow_succ]
  omega
theorem pl3_digits (a b c d:Nat) (h:∀ i,dg a b i≠3) (k:∀ i,dg c d i≠3):∀ n,pl3 a b n=pl3 c d n→∀ i,i<n→dg a b i=dg c d i
 |0,_,i,hi=>by omega
 |n+1,e,i,hi=>by
  have h1:=h n
  have h2:=dg_le a b n
  have k1:=k n
  have k2:=dg_le c d n
  unfold pl3 at e
  by_cases c0:i=n
  ·subst c0
   omega
  ·exact pl3_digits a b c d h k n (by omega) i (by omega)
theorem pl3_inj {n a b c d:Nat} (h:Two n a b) (k:Two n c d) (e:pl3 a b n=pl3 c d n):a=c∧b=d:=by
 have hd:=pl3_digits a b c d h.2.2 k.2.2 n e
 refine ⟨Nat.eq_of_testBit_eq (fun i=>?_),Nat.eq_of_testBit_eq (fun i=>?_)⟩
 ·by_cases hi:i<n
  ·exact (dg_inj a b c d i (hd i hi)).1
  ·rw [bit_ge n a i h.1 (by omega),bit_ge n c i k.1 (by omega)]
 ·by_cases hi:i<n
  ·exact (dg_inj a b c d i (hd i hi)).2
  ·rw [bit_ge n b i h.2.1 (by omega),bit_ge n d i k.2.1 (by omega)]
def Tab {σ:Type} (ok:σ→Prop) (place:σ→Nat) (val:σ→Int) (n:Nat) (t:List Int):Prop:=t.length=n∧∀ s,ok s→place s<n∧(t.getD (place s) 0=0∨t.getD (place s) 0=val s)
theorem Tab.set {σ:Type} {ok:σ→Prop} {place:σ→Nat} {val:σ→Int} {n:Nat} {t:List Int} (h:Tab ok place val n t) (hinj:∀ s s',ok s→ok s'→place s=place s'→s=s') (s:σ) (hs:ok s):Tab ok place val n (t.set (place s) (val s)):=by
 refine ⟨by rw [List.length_set];exact h.1,fun s' hs'=>⟨(h.2 s' hs').1,?_⟩⟩
 by_cases e:place s=place s'
 ·obtain rfl:=hinj s s' hs hs' e
  have:=(h.2 s hs).1
  right
  rw [List.getD_eq_getElem?_getD,List.getElem?_set_self (by rw [h.1];exact this)]
  rfl
 ·have:=(h.2 s' hs').2
  rw [List.getD_eq_getElem?_getD,List.getElem?_set_ne e,← List.getD_eq_getElem?_getD]
  exact this
theorem Tab.new {σ:Type} {ok:σ→Prop} {place:σ→Nat} {val:σ→Int} {n:Nat} (h:∀ s,ok s→place s<n):Tab ok place val n (List.replicate n 0):=by
 refine ⟨by simp,fun s hs=>⟨h s hs,.inl ?_⟩⟩
 rw [List.getD_eq_getElem?_getD,List.getElem?_replicate_of_lt (h s hs)]
 rfl
end Go.Proofs.YtlmohkbimnhecaaGreat.B
