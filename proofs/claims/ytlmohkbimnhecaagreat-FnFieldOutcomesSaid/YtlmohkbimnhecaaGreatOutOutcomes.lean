/-
  The law FnFieldOutcomes itself, walked along the way on which all holds. Codes within memory's reach.
-/
import Derived.Test.YtlmohkbimnhecaaGreatSq
import Derived.Test.YtlmohkbimnhecaaGreatOutcomeDefs
import Derived.Test.YtlmohkbimnhecaaGreatQ2
import Derived.Test.YtlmohkbimnhecaaGreatQ5
import Derived.Test.YtlmohkbimnhecaaGreatQ9
import Derived.Test.YtlmohkbimnhecaaGreatQ6
import Derived.Test.YtlmohkbimnhecaaGreatQ7
import Derived.Test.YtlmohkbimnhecaaGreatQ8
import Derived.Test.YtlmohkbimnhecaaGreatQ1
import Derived.Test.YtlmohkbimnhecaaGreatOutPlay
import Derived.Test.YtlmohkbimnhecaaGreatOutLeft
namespace Go.Proofs.YtlmohkbimnhecaaGreat.Q
open Go.RowKit Go.Proofs.YtlmohkbimnhecaaGreatW.PrintWords Go.Proofs.YtlmohkbimnhecaaGreatW.PrintLast Go.Proofs.YtlmohkbimnhecaaGreatW.PrintMore
section
variable {w0 w w' w1 w2 w3:World} {g:Nat} {a b c d:Value}
theorem bstep {o:Obj} (h:Aside0 (w.heap[g]?=some o)) (hb:Below w.heap.size w w'):Aside0 (w'.heap[g]?=some o):=⟨blk_below h.out hb⟩
theorem cstep {α:Type} {k:Kd α} {A:Option Addr} {m:Nat} {xs:List α} (h:Aside0 (Kd.C k w A m xs)) (hb:Below w.heap.size w w'):Aside0 (Kd.C k w' A m xs):=⟨Kd.C_below h.out hb⟩
theorem wstep (h:Aside0 (Below w0.heap.size w0 w)) (hb:Below w.heap.size w w'):Aside0 (Below w0.heap.size w0 w'):=⟨below_step h.out hb⟩
theorem settle4 {x0 x1 x2 x3:Value} {t:TypeId} (hb:Aside0 (Below w1.heap.size w1 w2)) (hg:Aside0 (g=w1.heap.size)) (hx:Aside0 (w2.heap[g]?=some (.cells #[x0,x1,x2,x3] t (0,0)))) (e:w3=(((w2.setCell ⟨g,0,none⟩ a).setCell ⟨g,1,none⟩ b).setCell ⟨g,2,none⟩ c).setCell ⟨g,3,none⟩ d):
 Aside0 (Below w1.heap.size w1 w3)∧Aside0 (w3.heap[g]?=some (.cells #[a,b,c,d] t (0,0))):=by
 have h:w1.heap.size≤g:=by rw [hg.out];exact Nat.le_refl _
 rw [e]
 exact ⟨⟨(((hb.out.setCell h _).setCell h _).setCell h _).setCell h _⟩,⟨blk_put (cs:=#[a,b,c,x3]) (blk_put (cs:=#[a,b,x2,x3]) (blk_put (cs:=#[a,x1,x2,x3]) (blk_put hx.out 0 _ rfl) 1 _ rfl) 2 _ rfl) 3 _ rfl⟩⟩
theorem settle1 {x0:Value} {t:TypeId} (hb:Aside0 (Below w1.heap.size w1 w2)) (hg:Aside0 (g=w1.heap.size)) (hx:Aside0 (w2.heap[g]?=some (.cells #[x0] t (0,0)))) (e:w3=w2.setCell ⟨g,0,none⟩ a):
 Aside0 (Below w1.heap.size w1 w3)∧Aside0 (w3.heap[g]?=some (.cells #[a] t (0,0))):=by
 have h:w1.heap.size≤g:=by rw [hg.out];exact Nat.le_refl _
 rw [e]
 exact ⟨⟨hb.out.setCell h _⟩,⟨blk_put hx.out 0 _ rfl⟩⟩
theorem turn4 {x0 x1 x2 x3:Value} {t:TypeId} (hb:Aside0 (Below w0.heap.size w0 w)) (hg:Aside0 (w0.heap.size≤g)) (hx:Aside0 (w.heap[g]?=some (.cells #[x0,x1,x2,x3] t (0,0)))) (e:w3=(((w.setCell ⟨g,0,none⟩ a).setCell ⟨g,1,none⟩ b).setCell ⟨g,2,none⟩ c).setCell ⟨g,3,none⟩ d):
 Aside0 (Below w0.heap.size w0 w3)∧Aside0 (w3.heap[g]?=some (.cells #[a,b,c,d] t (0,0))):=by
 rw [e]
 exact ⟨⟨(((hb.out.setCell hg.out _).setCell hg.out _).setCell hg.out _).setCell hg.out _⟩,⟨blk_put (cs:=#[a,b,c,x3]) (blk_put (cs:=#[a,b,x2,x3]) (blk_put (cs:=#[a,x1,x2,x3]) (blk_put hx.out 0 _ rfl) 1 _ rfl) 2 _ rfl) 3 _ rfl⟩⟩
end
structure D23 (wr:World) (q z:Nat) (w:World):Prop where
 below:Below wr.heap.size wr w
 box:q=1→wr.heap.size≤z∧w.heap[z]?=some (.cells #[.int .i64 0,.int .i64 0,.int .i64 0,.int .i64 0] 25 (0,0))
section
variable {wr w w':World} {q z z1:Nat}
theorem D23.start:Aside0 (D23 w 0 0 w):=⟨Below.refl _ _,fun h=>by omega⟩
theorem D23.step (h:Aside0 (D23 wr q z w)) (hb:Below w.heap.size w w'):Aside0 (D23 wr q z w'):=⟨below_then h.out.below h.out.below.size hb,fun hq=>⟨(h.out.box hq).1,blk_below (h.out.box hq).2 hb⟩⟩
theorem D23.lit (h:Aside0 (D23 wr 0 z w)) (e:w'=w.alloc (.cells #[.int .i64 0,.int .i64 0,.int .i64 0,.int .i64 0] 25)) (ez:z1=w.heap.size):Aside0 (D23 wr 1 z1 w'):=by
 subst e ez
 exact ⟨below_then h.out.below h.out.below.size ((Below.refl _ _).alloc (Nat.le_refl _) _),fun _=>⟨h.out.below.size,heap_alloc_new w _⟩⟩
theorem D23.put (h:Aside0 (D23 wr 1 z w)) {a b c d:Value} (e:w'=(((w.setCell ⟨z,0,none⟩ a).setCell ⟨z,1,none⟩ b).setCell ⟨z,2,none⟩ c).setCell ⟨z,3,none⟩ d):Aside0 (Below wr.heap.size wr w')∧Aside0 (w'.heap[z]?=some (.cells #[a,b,c,d] 25 (0,0))):=
 turn4 ⟨h.out.below⟩ ⟨(h.out.box rfl).1⟩ ⟨(h.out.box rfl).2⟩ e
end
def out23T:Bool×List (List Nat×List Nat):=(true,[([],[]),([],[]),([],[]),([],[]),([],[]),([3,4],[3,4]),([5],[5]),([0,1,2,6],[0,1,2,6]),([7],[7]),([8],[8]),([8],[8]),([],[]),([11,9,7,0,1,2,3,4,5,6,7,8,9,11],[9,11]),([10,12,0,1,2,3,4,5,6,7,8,9,10,11,12],[10])])
def out23B:List Nat:=[0,0,0,0,0,24,56,127,255,511,511,0,3071,8191]
theorem out23_tab:rtab .any (opsOf Tryz.f3 23)=out23T:=by kernel_rfl
theorem out23_bits:waitsOk out23T.2 out23B=true:=by kernel_rfl
theorem wrap_upo (n:Nat) (h:n≤1000):wrap64 ((n:Int)+1)=((n+1:Nat):Int):=by
 unfold wrap64
 omega
set_option linter.unusedSimpArgs false
set_option linter.unusedVariables false
set_option maxRecDepth 100000
set_option maxHeartbeats 4000000 in
theorem outcomes_big (A:Option Addr) (c:Nat) (l:List Int) (w:World) (hr:Kd.C (Kd.int .u8) w A l.length l) (hc:l.length≤c) (h0:(l.length:Int)>4096):
 Calls Tryz.prog 3 #[.slice A l.length c] w fun e w'=>e=.returned (.bool true)∧Below w.heap.size w w':=by
 have HR:=Aside0.mk hr
 have h0b:laws_big.f l=some true:=by unfold laws_big.f;rw [decide_eq_true h0]
 have H0:=Aside0.mk h0b
 clear hr h0 h0b
 go_enter Tryz.func3,Tryz.ntmps3
 go_wp2_with (go_at_call 4;refine (laws_big.calls A c l true _ HR.out hc H0.out).mono ?_;rintro e w2 ⟨rfl,hd2⟩;have HB2:=Aside0.mk hd2.below)
 go_ret
 exact ⟨rfl,HB2.out⟩
set_option maxHeartbeats 40000000 in
theorem outcomes_good (k:Nat) (A:Option Addr) (c:Nat) (l:List Int) (fP fL fR fB gm pl e1 e3 gP gL gR gB e10 hP hL hR hB hg lo hi e17 uP uL uR uB e19:Int) (P B K M:List Int) (mb:Bool) (w:World) (hr:Kd.C (Kd.int .u8) w A l.length l) (hc:l.length≤c) (h0:¬ (l.length:Int)>4096)
 (HD:Aside0 (spec_DrawPlayField.f k l=some (fP,fL,fR,fB,gm,pl))) (HI1:Aside0 (impl_PlayField.f k fP fL fR fB gm pl=some (P,e1))) (HS1:Aside0 (spec_PlayField.f k fP fL fR fB gm pl=some (P,e1)))
 (HI2:Aside0 (impl_BestPoints.f k fP fL fR fB gm pl=some (B,e3))) (HS2:Aside0 (spec_BestPoints.f k fP fL fR fB gm pl=some (B,e3))) (HL2:Aside0 (laws_likeInts.f k P P=some true)) (HL3:Aside0 (laws_likeInts.f k B B=some true))
 (HONE:Aside0 (e1=0→∃ a b,PlayOk k fP fL fR fB gm pl B P a b))
 (HD2:Aside0 (spec_DrawFindKept.f k l=some (gP,gL,gR,gB))) (HI3:Aside0 (impl_FindKept.f k gP gL gR gB=some (K,e10))) (HS3:Aside0 (spec_FindKept.f k gP gL gR gB=some (K,e10))) (HL4:Aside0 (laws_likeInts.f k K K=some true))
 (HKEPT:Aside0 (e10=0→keptOk k gP gL gR gB K)) (HEMP:Aside0 (∀ x:Nat,1≤x→x≤5→emptyOk k x))
 (HD3:Aside0 (spec_DrawMovesLeft.f k l=some (hP,hL,hR,hB,hg))) (HI4:Aside0 (impl_MovesLeft.f k hP hL hR hB hg=some (lo,hi,e17))) (HS4:Aside0 (spec_MovesLeft.f k hP hL hR hB hg=some (lo,hi,e17))) (HLE:Aside0 (lo≤hi))
 (HD4:Aside0 (spec_DrawIsMatching.f k l=some (uP,uL,uR,uB,M))) (HI5:Aside0 (impl_IsMatching.f k uP uL uR uB M=some (mb,e19))) (HS5:Aside0 (spec_IsMatching.f k uP uL uR uB M=some (mb,e19))):
 Calls Tryz.prog 3 #[.slice A l.length c] w fun e w'=>e=.returned (.bool true)∧Below w.heap.size w w':=by
 have HR:=Aside0.mk hr
 have H0:Aside0 (laws_big.f l=some false):=⟨by unfold laws_big.f;rw [decide_eq_false h0]⟩
 have HB:=Aside0.mk (Below.refl w.heap.size w)
 have hu:=Tryz.underlying25
 have hu2:=Tryz.underlying43
 clear hr h0
 go_enter Tryz.func3,Tryz.ntmps3
 go_upto_if 118 with (first
  |(go_at_call 4;(try clear p0 p1 p2 p3);with_reducible refine (laws_big.calls A c l false _ HR.out hc H0.out).mono ?_;rintro e y1_ ⟨rfl,hd⟩;have hb:=hd.below;clear hd;replace HB:=wstep HB hb;clear hb)
  |(go_at_call 5;(try clear p0 p1 p2 p3);with_reducible refine (spec_DrawPlayField.calls k A c l fP fL fR fB gm pl _ (Kd.C_below HR.out HB.out) hc HD.out).mono ?_;rintro e y2_ ⟨rfl,hb⟩;replace HB:=wstep HB hb;clear hb;clear HD)
  |((with_reducible refine gate_dst (N:=3) rfl ?_);refine zX 3 #[.int .i64 0,.int .i64 0,.int .i64 0,.int .i64 0] 25 ?_;intro g3 hg_ y3_ hbox hb;have HG3:=Aside0.mk hg_;have HB3:=Aside0.mk hb;have HX3:=Aside0.mk hbox;obtain ⟨k0,k1,k2,k3⟩:=zc4 HX3;obtain ⟨q0,q1,q2,q3⟩:=zf4 HX3;clear hg_ hb hbox)
  |(go_at_call 6;obtain ⟨y4_,e4⟩:∃ z,z=(((y3_.setCell ⟨g3,0,none⟩ (.int .i64 fP)).setCell ⟨g3,1,none⟩ (.int .i64 fL)).setCell ⟨g3,2,none⟩ (.int .i64 fR)).setCell ⟨g3,3,none⟩ (.int .i64 fB):=⟨_,rfl⟩;rw [← e4];obtain ⟨HS4,G3⟩:=settle4 HB3 HG3 HX3 e4;replace HB:=wstep HB HS4.out;have F3:=G3;clear e4 HS4 HB3 HG3 HX3 G3;(try clear k0 k1 k2 k3 q0 q1 q2 q3);(try clear p0 p1 p2 p3);with_reducible refine (impl_PlayField.calls k fP fL fR fB gm pl P e1 _ HI1.out).mono ?_;rintro e y5_ ⟨v_,rfl,ho,hb⟩;replace HB:=wstep HB hb;replace F3:=bstep F3 hb;clear hb;obtain ⟨A6,c6,rfl,l6,hC⟩:=Kd.R_reads ho;have C6:=Aside0.mk hC;clear ho hC;obtain ⟨p0,p1,p2,p3⟩:=zc4 F3;clear HI1)
  |(go_at_call 7;(try clear p0 p1 p2 p3);with_reducible refine (spec_PlayField.calls k fP fL fR fB gm pl P e1 _ HS1.out).mono ?_;rintro e y6_ ⟨v_,rfl,ho,hb⟩;replace HB:=wstep HB hb;replace F3:=bstep F3 hb;replace C6:=cstep C6 hb;clear hb;obtain ⟨A8,c8,rfl,l8,hC⟩:=Kd.R_reads ho;have C8:=Aside0.mk hC;clear ho hC;obtain ⟨p0,p1,p2,p3⟩:=zc4 F3;clear HS1)
  |(go_at_call 8;(try clear p0 p1 p2 p3);with_reducible refine (impl_BestPoints.calls k fP fL fR fB gm pl B e3 _ HI2.out).mono ?_;rintro e y7_ ⟨v_,rfl,ho,hb⟩;replace HB:=wstep HB hb;replace F3:=bstep F3 hb;replace C6:=cstep C6 hb;replace C8:=cstep C8 hb;clear hb;obtain ⟨A10,c10,rfl,l10,hC⟩:=Kd.R_reads ho;have C10:=Aside0.mk hC;clear ho hC;obtain ⟨p0,p1,p2,p3⟩:=zc4 F3;clear HI2)
  |(go_at_call 9;(try clear p0 p1 p2 p3);with_reducible refine (spec_BestPoints.calls k fP fL fR fB gm pl B e3 _ HS2.out).mono ?_;rintro e y8_ ⟨v_,rfl,ho,hb⟩;replace HB:=wstep HB hb;replace F3:=bstep F3 hb;replace C6:=cstep C6 hb;replace C8:=cstep C8 hb;replace C10:=cstep C10 hb;clear hb;obtain ⟨A12,c12,rfl,l12,hC⟩:=Kd.R_reads ho;have C12:=Aside0.mk hC;clear ho hC;clear HS2)
  |(go_at_call 10;(try clear p0 p1 p2 p3);with_reducible refine (laws_likeInts.calls k A6 c6 P A8 c8 P true _ C6.out l6 C8.out l8 HL2.out).mono ?_;rintro e y9_ ⟨rfl,hd⟩;have hb:=hd.below;clear hd;replace HB:=wstep HB hb;replace F3:=bstep F3 hb;replace C6:=cstep C6 hb;replace C8:=cstep C8 hb;replace C10:=cstep C10 hb;replace C12:=cstep C12 hb;clear hb;clear HL2)
  |(go_at_call 10;(try clear p0 p1 p2 p3);with_reducible refine (laws_likeInts.calls k A10 c10 B A12 c12 B true _ C10.out l10 C12.out l12 HL3.out).mono ?_;rintro e y10_ ⟨rfl,hd⟩;have hb:=hd.below;clear hd;replace HB:=wstep HB hb;replace F3:=bstep F3 hb;replace C6:=cstep C6 hb;replace C8:=cstep C8 hb;replace C10:=cstep C10 hb;replace C12:=cstep C12 hb;clear hb;clear HL3))
 clear C8 C12
 go_upto_if 120 with fail
 go_cut [] (fun wc=>Aside0 (Below w.heap.size w wc))
 case first=>as_aux_lemma=>
  by_cases he:e1=0
  ·subst he
   obtain ⟨a,b,OK⟩:=HONE.out rfl
   have HO1:=Aside0.mk OK.out
   have HO2:=Aside0.mk OK.turn
   have HO3:=Aside0.mk OK.back
   have HW1:=Aside0.mk OK.one
   have HW2:=Aside0.mk OK.two
   have HSH:=Aside0.mk OK.short
   have HMV:=Aside0.mk OK.moves
   clear OK
   obtain ⟨p0,p1,p2,p3⟩:=zc4 F3
   go_upto_if 142 with (first
    |(go_at_call 11;(try clear p0 p1 p2 p3);with_reducible refine (impl_OutcomeOf.calls k fP fL fR fB gm a b 0 _ HO1.out).mono ?_;rintro e y11_ ⟨rfl,hb⟩;replace HB:=wstep HB hb;replace F3:=bstep F3 hb;replace C6:=cstep C6 hb;replace C10:=cstep C10 hb;clear hb;obtain ⟨p0,p1,p2,p3⟩:=zc4 F3;clear HO1)
    |(go_at_call 12;(try clear p0 p1 p2 p3);with_reducible refine (impl_ExchangeSides.calls fP fL fR fB fP fL fB fR 0 _ HO2.out).mono ?_;rintro e y12_ ⟨rfl,hb⟩;replace HB:=wstep HB hb;replace F3:=bstep F3 hb;replace C6:=cstep C6 hb;replace C10:=cstep C10 hb;clear hb;clear HO2)
    |((with_reducible refine gate_dst (N:=17) rfl ?_);refine zX 17 #[.int .i64 0,.int .i64 0,.int .i64 0,.int .i64 0] 25 ?_;intro g17 hg_ y13_ hbox hb;have HG3:=Aside0.mk hg_;have HB3:=Aside0.mk hb;have HX3:=Aside0.mk hbox;obtain ⟨k0,k1,k2,k3⟩:=zc4 HX3;obtain ⟨q0,q1,q2,q3⟩:=zf4 HX3;clear hg_ hb hbox)
    |(go_at_call 11;obtain ⟨y14_,e4⟩:∃ z,z=(((y13_.setCell ⟨g17,0,none⟩ (.int .i64 fP)).setCell ⟨g17,1,none⟩ (.int .i64 fL)).setCell ⟨g17,2,none⟩ (.int .i64 fB)).setCell ⟨g17,3,none⟩ (.int .i64 fR):=⟨_,rfl⟩;rw [← e4];obtain ⟨HS4,G17⟩:=settle4 HB3 HG3 HX3 e4;replace HB:=wstep HB HS4.out;replace F3:=bstep F3 HS4.out;replace C6:=cstep C6 HS4.out;replace C10:=cstep C10 HS4.out;have F17:=G17;clear e4 HS4 HB3 HG3 HX3 G17;(try clear k0 k1 k2 k3 q0 q1 q2 q3);(try clear p0 p1 p2 p3);with_reducible refine (impl_OutcomeOf.calls k fP fL fB fR gm b a 0 _ HO3.out).mono ?_;rintro e y15_ ⟨rfl,hb⟩;replace HB:=wstep HB hb;replace F3:=bstep F3 hb;replace F17:=bstep F17 hb;replace C6:=cstep C6 hb;replace C10:=cstep C10 hb;clear hb;clear HO3))
   clear F17
   obtain ⟨ow,hB,hP,how⟩:∃ ow:Bool,decide (0<B.length)=ow∧decide (P.length%2=1)=ow∧((pl=1∧ow=b)∨(¬ pl=1∧ow=a)):=by
    by_cases hp:pl=1
    ·exact ⟨b,(HW1.out hp).1.symm,(HW1.out hp).2.symm,.inl ⟨hp,rfl⟩⟩
    ·exact ⟨a,(HW2.out hp).1.symm,(HW2.out hp).2.symm,.inr ⟨hp,rfl⟩⟩
   have HOW:=Aside0.mk how
   have HB0:=Aside0.mk hB
   have HP0:=Aside0.mk hP
   clear how hB hP HW1 HW2
   go_cut [22] (fun v22 wc=>v22=.bool ow∧Aside0 (Below y15_.heap.size y15_ wc))
   case first=>as_aux_lemma=>
    rcases HOW.out with ⟨hp,ho⟩|⟨hp,ho⟩
    ·have hpb:(pl==1)=true:=by simp [hp]
     subst ho
     clear hp HOW HB0 HP0
     go_wp2
     go_meet
     case rel=>exact ⟨rfl,⟨Below.refl _ _⟩⟩
    ·have hpb:(pl==1)=false:=by simp [hp]
     subst ho
     clear hp HOW HB0 HP0
     go_wp2
     go_meet
     case rel=>exact ⟨rfl,⟨Below.refl _ _⟩⟩
   case rest=>as_aux_lemma=>
    obtain ⟨rfl,HBC⟩:=hcut
    replace HB:=wstep HB HBC.out
    replace F3:=bstep F3 HBC.out
    replace C6:=cstep C6 HBC.out
    clear HBC C10
    have hB:=HB0.out
    have hP:=HP0.out
    have hP2:(Int.tmod (P.length:Int) 2==1)=ow:=by
     rw [← hP,show Int.tmod (P.length:Int) 2=((P.length%2:Nat):Int) from rfl]
     by_cases h:P.length%2=1
     ·rw [h,decide_eq_true rfl];rfl
     ·rw [decide_eq_false h];exact beq_eq_false_iff_ne.2 (by omega)
    have hP3:((P.length:Int)%2==1)=ow:=hP2
    have hsh:=HSH.out
    obtain ⟨p0,p1,p2,p3⟩:=zc4 F3
    go_upto_if 178 with fail
    clear hB hP hP2 hP3 HB0 HP0 HOW
    go_upto_region 20 with (((with_reducible refine gate_dst (N:=23) rfl ?_);refine zX 23 #[.int .i64 0,.int .i64 0,.int .i64 0,.int .i64 0] 25 ?_;intro g23 hg_ y16_ hbox hb;have HG3:=Aside0.mk hg_;have HB3:=Aside0.mk hb;have HX3:=Aside0.mk hbox;obtain ⟨k0,k1,k2,k3⟩:=zc4 HX3;obtain ⟨q0,q1,q2,q3⟩:=zf4 HX3;clear hg_ hb hbox))
    obtain ⟨wm,em⟩:∃ z,z=(((y16_.setCell ⟨g23,0,none⟩ (.int .i64 fP)).setCell ⟨g23,1,none⟩ (.int .i64 fL)).setCell ⟨g23,2,none⟩ (.int .i64 fR)).setCell ⟨g23,3,none⟩ (.int .i64 fB):=⟨_,rfl⟩
    rw [← em]
    obtain ⟨HS4,FA⟩:=settle4 HB3 HG3 HX3 em
    have HGA:Aside0 (wc.heap.size≤g23):=⟨by have h2:=HG3.out;omega⟩
    clear em HB3 HG3 HX3 p0 p1 p2 p3 k0 k1 k2 k3 q0 q1 q2 q3 F3
    go_wp2
    go_loopg [24,183] P.length (fun gg v24 v183 wr=>∃ (i:Nat) (R' B' pp:Int),i≤P.length∧P.length-i≤gg∧v24=.int .i64 pp∧v183=.int .i64 i∧Aside0 (movesF k fP fL gm (P.drop i) R' B' pp)∧Aside0 (Below wc.heap.size wc wr)∧Aside0 (wr.heap[g23]?=some (.cells #[.int .i64 fP,.int .i64 fL,.int .i64 R',.int .i64 B'] 25 (0,0))))
    case atStart=>exact ⟨0,fR,fB,pl,Nat.zero_le _,by omega,rfl,rfl,HMV,HS4,FA⟩
    case round=>as_aux_lemma=>
     clear HMV HS4 FA hsh
     obtain ⟨i,R',B',pp,hi_,hgg,rfl,rfl,HMV,HBL,FA⟩:=hrel
     have hsh:=HSH.out
     by_cases hlt:i<P.length
     ·have hltz:(i:Int)<(P.length:Int):=by omega
      have hltb:decide ((i:Int)<(P.length:Int))=true:=decide_eq_true hltz
      obtain ⟨x,rest,hd⟩:∃ x rest,P.drop i=x::rest:=⟨_,_,List.drop_eq_getElem_cons hlt⟩
      have hrd:rd P (i:Int)=x:=by
       have h1:=List.drop_eq_getElem_cons hlt
       rw [hd] at h1
       injection h1 with h2 h3
       unfold rd
       rw [Int.toNat_natCast,List.getD_eq_getElem?_getD,List.getElem?_eq_getElem hlt,h2]
       rfl
      have hdr:P.drop (i+1)=rest:=by
       have h1:=List.drop_eq_getElem_cons hlt
       rw [hd] at h1
       injection h1 with h2 h3
       exact h3.symm
      have hro:=HMV.out
      rw [hd] at hro
      obtain ⟨R2,B2,hcol,hpp,hnext⟩:=hro
      have HCOL:=Aside0.mk hcol
      have HNX:Aside0 (movesF k fP fL gm (P.drop (i+1)) R2 B2 (1-pp)):=⟨by rw [hdr];exact hnext⟩
      have C6w:=Kd.C_below C6.out HBL.out
      obtain ⟨ad,e1_,hx⟩:=Kd.at_int C6w (i:Int) (by omega) hltz
      subst e1_
      rw [hrd,Int.toNat_natCast] at hx
      have HEX:=Aside0.mk hx
      obtain ⟨p0,p1,p2,p3⟩:=zc4 FA
      have HPP:=Aside0.mk hpp
      clear hd hdr hrd hcol hnext HMV C6w hx hpp
      go_upto_region 23 with fail
      have HSS:Aside0 (∀ W_:World,Below wr.heap.size wr W_→W_.cell? ⟨g23,0,none⟩=some (.int .i64 fP)∧W_.cell? ⟨g23,1,none⟩=some (.int .i64 fL)∧W_.cell? ⟨g23,2,none⟩=some (.int .i64 R')∧W_.cell? ⟨g23,3,none⟩=some (.int .i64 B')∧W_.cell? (ad.add i)=some (.int .i64 x)):=⟨fun W_ hW=>⟨(zc4 (bstep FA hW)).1,(zc4 (bstep FA hW)).2.1,(zc4 (bstep FA hW)).2.2.1,(zc4 (bstep FA hW)).2.2.2,pw_cell_below hW HEX.out⟩⟩
      refine start_ (n:=14) (S:=(fun W_=>W_.cell? ⟨g23,0,none⟩=some (.int .i64 fP)∧W_.cell? ⟨g23,1,none⟩=some (.int .i64 fL)∧W_.cell? ⟨g23,2,none⟩=some (.int .i64 R')∧W_.cell? ⟨g23,3,none⟩=some (.int .i64 B')∧W_.cell? (ad.add i)=some (.int .i64 x))) (ds:=[]) #[false,false,false,false,false,false,false,false,false,false,false,false,false,false] (by kernel_rfl) rfl rfl (HSS.out _ (below_drew (Below.refl _ _))) (fun hHeld=>?_);refine with_tabW out23_tab out23_bits (fun HT_ HW_=>?_)
      have HD0:Aside0 (Below wr.heap.size wr wr.drew):=⟨below_drew (Below.refl _ _)⟩
      replace HSS:Aside0 (∀ W_:World,Below wr.drew.heap.size wr.drew W_→W_.cell? ⟨g23,0,none⟩=some (.int .i64 fP)∧W_.cell? ⟨g23,1,none⟩=some (.int .i64 fL)∧W_.cell? ⟨g23,2,none⟩=some (.int .i64 R')∧W_.cell? ⟨g23,3,none⟩=some (.int .i64 B')∧W_.cell? (ad.add i)=some (.int .i64 x)):=⟨fun W_ hW=>HSS.out W_ (below_then HD0.out HD0.out.size hW)⟩
      generalize wr.drew=wS at HD0 HSS hHeld ⊢
      have HE0:Aside0 (D23 wS 0 0 wS):=D23.start
      refine zT HT_ HW_ hHeld 0 (some 187) rfl rfl ?_
      refine zP HT_ 1 (some 188) rfl rfl ?_
      refine zP HT_ 2 (some 189) rfl rfl ?_
      refine zP HT_ 3 (some 190) rfl rfl ?_
      refine zP HT_ 4 (some 191) rfl rfl ?_
      refine zP HT_ 5 (some 192) rfl rfl ?_
      refine zT HT_ HW_ hHeld 6 (some 193) rfl rfl ?_
      refine join_ (σ:=Nat) (2) #[true,true,true,true,true,true,true,true,true,true,true,true,false,false] (fun s=>[(194,.tuple #[.agg #[.int .i64 fP,.int .i64 fL,.int .i64 R2,.int .i64 B2],.int .i64 0]),(26,.pointer (some ⟨s,0,none⟩)),(186,.tuple #[.agg #[.int .i64 fP,.int .i64 fL,.int .i64 R2,.int .i64 B2],.int .i64 0]),(195,.agg #[.int .i64 fP,.int .i64 fL,.int .i64 R2,.int .i64 B2]),(196,.int .i64 0)]) (fun s w'=>D23 wS 1 s w') ?hcont (fun hcont=>?h)
      case h=>
       refine two_ (i:=7) (j:=11) (Ni:=some 194) (Nj:=some 26) #[true,true,true,true,true,true,true,true,false,false,false,false,false,false] #[true,true,true,true,true,true,true,false,false,false,false,true,false,false] rfl rfl rfl rfl (two_of HT_.out (by kernel_rfl)) (by decide) (by decide) (fun K hK=>?_) (fun K hK=>?_)
       ·refine goes_ Tryz.func13 (by kernel_rfl) rfl #[.agg #[.int .i64 fP,.int .i64 fL,.int .i64 R',.int .i64 B'],.int .i64 gm,.int .i64 pp,.int .i64 x] (by rfl) rfl rfl zM ?_
        with_reducible refine (impl_ColourPoint.calls k fP fL R' B' gm pp x fP fL R2 B2 0 _ HCOL.out).mono ?_
        rintro e w21 ⟨rfl,hb⟩
        have HE21:=D23.step HE0 hb
        clear hb
        refine ⟨_,rfl,?_⟩
        refine hK.out _ _ (HSS.out _ HE21.out.below) (fun hHeld=>?_)
        clear hK K
        refine zW (some 194) ?_
        refine zP HT_ 8 (some 186) rfl rfl ?_
        refine zP HT_ 9 (some 195) rfl rfl ?_
        refine zP HT_ 10 (some 196) rfl rfl ?_
        refine one_ (i:=11) (N:=some 26) #[true,true,true,true,true,true,true,true,true,true,true,true,false,false] rfl rfl (one_of HT_.out (by kernel_rfl)) (by decide) (fun K hK=>?_)
        obtain ⟨w22,ew⟩:∃ z,z=w21.alloc (.cells #[.int .i64 0,.int .i64 0,.int .i64 0,.int .i64 0] 25):=⟨_,rfl⟩
        obtain ⟨z22,ez⟩:∃ z,z=w21.heap.size:=⟨_,rfl⟩
        refine event_step (w1:=w22) (v:=.pointer (some ⟨z22,0,none⟩)) (by rfl) (by rw [ew,ez];first|(go_simp;done)|(go_simp;rfl)) ?_
        have HE22:=D23.lit HE21 ew ez
        clear ew ez
        refine hK.out _ _ (HSS.out _ HE22.out.below) (fun hHeld=>?_)
        clear hK K
        refine zW (some 26) ?_
        refine norm_ ?_ (hcont z22 w22 HE22.out)
        simp only [putAll,Act.put,List.setIfInBounds_toArray,List.set_cons_zero,List.set_cons_succ]
       ·obtain ⟨w31,ew⟩:∃ z,z=wS.alloc (.cells #[.int .i64 0,.int .i64 0,.int .i64 0,.int .i64 0] 25):=⟨_,rfl⟩
        obtain ⟨z31,ez⟩:∃ z,z=wS.heap.size:=⟨_,rfl⟩
        refine event_step (w1:=w31) (v:=.pointer (some ⟨z31,0,none⟩)) (by rfl) (by rw [ew,ez];first|(go_simp;done)|(go_simp;rfl)) ?_
        have HE31:=D23.lit HE0 ew ez
        clear ew ez
        refine hK.out _ _ (HSS.out _ HE31.out.below) (fun hHeld=>?_)
        clear hK K
        refine zW (some 26) ?_
        refine one_ (i:=7) (N:=some 194) #[true,true,true,true,true,true,true,true,false,false,false,true,false,false] rfl rfl (one_of HT_.out (by kernel_rfl)) (by decide) (fun K hK=>?_)
        refine goes_ Tryz.func13 (by kernel_rfl) rfl #[.agg #[.int .i64 fP,.int .i64 fL,.int .i64 R',.int .i64 B'],.int .i64 gm,.int .i64 pp,.int .i64 x] (by rfl) rfl rfl zM ?_
        with_reducible refine (impl_ColourPoint.calls k fP fL R' B' gm pp x fP fL R2 B2 0 _ HCOL.out).mono ?_
        rintro e w32 ⟨rfl,hb⟩
        have HE32:=D23.step HE31 hb
        clear hb
        refine ⟨_,rfl,?_⟩
        refine hK.out _ _ (HSS.out _ HE32.out.below) (fun hHeld=>?_)
        clear hK K
        refine zW (some 194) ?_
        refine zP HT_ 8 (some 186) rfl rfl ?_
        refine zP HT_ 9 (some 195) rfl rfl ?_
        refine zP HT_ 10 (some 196) rfl rfl ?_
        refine norm_ ?_ (hcont z31 w32 HE32.out)
        simp only [putAll,Act.put,List.setIfInBounds_toArray,List.set_cons_zero,List.set_cons_succ]
      case hcont=>
       intro z w6 HF6
       have HF:=Aside0.mk HF6
       clear HF6 hHeld HE0
       have hHeld:=HSS.out _ HF.out.below
       refine norm_ (a':=?_) ?_ ?_
       rotate_left
       ·simp only [putAll,Act.put,List.setIfInBounds_toArray,List.set_cons_zero,List.set_cons_succ]
        rfl
       have HX6:Aside0 (w6.heap[z]?=some (.cells #[.int .i64 0,.int .i64 0,.int .i64 0,.int .i64 0] 25 (0,0))):=⟨(HF.out.box rfl).2⟩
       obtain ⟨c0,c1,c2,c3⟩:=zc4 HX6
       obtain ⟨f0,f1,f2,f3⟩:=zf4 HX6
       refine one_ (i:=12) (N:=none) #[true,true,true,true,true,true,true,true,true,true,true,true,true,false] rfl rfl (one_of HT_.out (by kernel_rfl)) (by decide) (fun K hK=>?_)
       obtain ⟨w7,e7⟩:∃ q,q=(((w6.setCell ⟨z,0,none⟩ (.int .i64 fP)).setCell ⟨z,1,none⟩ (.int .i64 fL)).setCell ⟨z,2,none⟩ (.int .i64 R2)).setCell ⟨z,3,none⟩ (.int .i64 B2):=⟨_,rfl⟩
       refine skip_ (w1:=w7) (by rfl) rfl (by rw [e7];first|(go_simp;done)|(go_simp;rfl)) ?_
       obtain ⟨HB7,HZ7⟩:=D23.put HF e7
       clear e7 HX6 c0 c1 c2 c3 f0 f1 f2 f3
       refine hK.out _ _ (HSS.out _ HB7.out) (fun hHeld=>?_)
       clear hK K
       refine zP HT_ 13 (some 27) rfl rfl ?_
       refine done_ (done_of HT_.out (by kernel_rfl)) ?_
       have HB8:=Aside0.mk (below_then HD0.out HD0.out.size HB7.out)
       replace FA:=bstep FA HB8.out
       have HBL2:=Aside0.mk (below_then HBL.out HBL.out.size HB8.out)
       clear HSS HF HB7 HD0 HBL hHeld HT_ HW_ p0 p1 p2 p3 HB8 HEX HCOL
       obtain ⟨m,hm⟩:=zj (wrap64 (1-pp))
       have hmw:IntKind.i64.wrap (1-pp)=m:=(i64_w _).trans hm
       have HM:Aside0 (m=1-pp):=⟨by have h1:=HPP.out;rw [← hm];unfold wrap64;omega⟩
       obtain ⟨c0,c1,c2,c3⟩:=zc4 HZ7
       obtain ⟨p0,p1,p2,p3⟩:=zc4 FA
       obtain ⟨f0,f1,f2,f3⟩:=zf4 FA
       go_wp2
       obtain ⟨w9,e9⟩:∃ z,z=(((w7.setCell ⟨g23,0,none⟩ (.int .i64 fP)).setCell ⟨g23,1,none⟩ (.int .i64 fL)).setCell ⟨g23,2,none⟩ (.int .i64 R2)).setCell ⟨g23,3,none⟩ (.int .i64 B2):=⟨_,rfl⟩
       rw [← e9]
       obtain ⟨HBT,FA9⟩:=turn4 HBL2 HGA FA e9
       go_roundg (P.length-(i+1))
       case measure=>omega
       case rel=>exact ⟨i+1,R2,B2,m,by omega,by omega,rfl,rfl,⟨by rw [HM.out];exact HNX.out⟩,HBT,FA9⟩
     ·have hltb:decide ((i:Int)<(P.length:Int))=false:=decide_eq_false (by omega)
      have hend:impl_PointsFor.f k fP fL R' B' gm pp=some ([],0):=by
       have h1:=HMV.out
       rw [List.drop_eq_nil_of_le (by omega)] at h1
       exact h1
      have HEND:=Aside0.mk hend
      obtain ⟨p0,p1,p2,p3⟩:=zc4 FA
      clear hend HMV
      go_wp2_with (go_at_call 14;with_reducible refine (impl_PointsFor.calls k fP fL R' B' gm pp [] 0 _ HEND.out).mono ?_;rintro e wv ⟨v_,rfl,ho,hb⟩;obtain ⟨A28,c28,rfl,l28,hC⟩:=Kd.R_reads ho;have HBV:=Aside0.mk (below_then HBL.out HBL.out.size hb);clear ho hb hC)
      go_meet
      case rel=>exact wstep HB HBV.out
  ·have heb:(e1==0)=false:=by simp [he]
   clear he
   go_wp2
   go_meet
   case rel=>exact HB
 case rest=>as_aux_lemma=>
  replace HB:=hcut
  clear hcut F3 C6 C10 HONE l6 l8 l10 l12
  go_upto_if 237 with (first
   |(go_at_call 15;(try clear p0 p1 p2 p3);with_reducible refine (spec_DrawFindKept.calls k A c l gP gL gR gB _ (Kd.C_below HR.out HB.out) hc HD2.out).mono ?_;rintro e y51_ ⟨rfl,hb⟩;replace HB:=wstep HB hb;clear hb;clear HD2)
   |((with_reducible refine gate_dst (N:=30) rfl ?_);refine zX 30 #[.int .i64 0,.int .i64 0,.int .i64 0,.int .i64 0] 25 ?_;intro g30 hg_ y52_ hbox hb;have HG3:=Aside0.mk hg_;have HB3:=Aside0.mk hb;have HX3:=Aside0.mk hbox;obtain ⟨k0,k1,k2,k3⟩:=zc4 HX3;obtain ⟨q0,q1,q2,q3⟩:=zf4 HX3;clear hg_ hb hbox)
   |(go_at_call 16;obtain ⟨y53_,e4⟩:∃ z,z=(((y52_.setCell ⟨g30,0,none⟩ (.int .i64 gP)).setCell ⟨g30,1,none⟩ (.int .i64 gL)).setCell ⟨g30,2,none⟩ (.int .i64 gR)).setCell ⟨g30,3,none⟩ (.int .i64 gB):=⟨_,rfl⟩;rw [← e4];obtain ⟨HS4,G30⟩:=settle4 HB3 HG3 HX3 e4;replace HB:=wstep HB HS4.out;have F30:=G30;clear e4 HS4 HB3 HG3 HX3 G30;(try clear k0 k1 k2 k3 q0 q1 q2 q3);(try clear p0 p1 p2 p3);with_reducible refine (impl_FindKept.calls k gP gL gR gB K e10 _ HI3.out).mono ?_;rintro e y54_ ⟨v_,rfl,ho,hb⟩;replace HB:=wstep HB hb;replace F30:=bstep F30 hb;clear hb;obtain ⟨A31,c31,rfl,l31,hC⟩:=Kd.R_reads ho;have C31:=Aside0.mk hC;clear ho hC;obtain ⟨p0,p1,p2,p3⟩:=zc4 F30;clear HI3)
   |(go_at_call 17;(try clear p0 p1 p2 p3);with_reducible refine (spec_FindKept.calls k gP gL gR gB K e10 _ HS3.out).mono ?_;rintro e y55_ ⟨v_,rfl,ho,hb⟩;replace HB:=wstep HB hb;replace F30:=bstep F30 hb;replace C31:=cstep C31 hb;clear hb;obtain ⟨A33,c33,rfl,l33,hC⟩:=Kd.R_reads ho;have C33:=Aside0.mk hC;clear ho hC;clear HS3)
   |(go_at_call 10;(try clear p0 p1 p2 p3);with_reducible refine (laws_likeInts.calls k A31 c31 K A33 c33 K true _ C31.out l31 C33.out l33 HL4.out).mono ?_;rintro e y56_ ⟨rfl,hd⟩;have hb:=hd.below;clear hd;replace HB:=wstep HB hb;replace F30:=bstep F30 hb;replace C31:=cstep C31 hb;replace C33:=cstep C33 hb;clear hb;clear HL4))
  clear C33
  go_upto_if 239 with fail
  go_cut [] (fun wc=>Aside0 (Below w.heap.size w wc))
  case first=>as_aux_lemma=>
   by_cases he:e10=0
   ·subst he
    obtain ⟨hk1,hk2⟩:=HKEPT.out rfl
    have HK1:=Aside0.mk hk1
    have HK2:=Aside0.mk hk2
    obtain ⟨p0,p1,p2,p3⟩:=zc4 F30
    clear hk1 hk2
    go_wp2_with (go_at_call 18;with_reducible refine (impl_IsMatching.calls k gP gL gR gB A31 c31 K true 0 _ C31.out l31 HK1.out).mono ?_;rintro e wf ⟨rfl,hb⟩;replace HB:=wstep HB hb;replace F30:=bstep F30 hb;clear hb p0 p1 p2 p3)
    go_loopg [37] 2 (fun gg v37 wr=>∃ x:Nat,x≤2∧2-x≤gg∧v37=.int .i64 x∧Aside0 (Below w.heap.size w wr)∧Aside0 (wr.heap[g30]?=some (.cells #[.int .i64 gP,.int .i64 gL,.int .i64 gR,.int .i64 gB] 25 (0,0))))
    case atStart=>exact ⟨0,by omega,by omega,rfl,HB,F30⟩
    case round=>as_aux_lemma=>
     clear HB F30
     obtain ⟨x,hx2,hgg,rfl,HB,F30⟩:=hrel
     by_cases hlt:x<2
     ·have hltb:decide ((x:Int)<2)=true:=decide_eq_true (by omega)
      obtain ⟨a,b,cc,ho,hab⟩:=HK2.out x hlt
      have HO:=Aside0.mk ho
      obtain ⟨p0,p1,p2,p3⟩:=zc4 F30
      by_cases hc0:cc=0
      ·obtain ⟨rfl,rfl⟩:=hab hc0
       subst hc0
       clear ho hab
       go_wp2_with (go_at_call 11;with_reducible refine (impl_OutcomeOf.calls k gP gL gR gB x false false 0 _ HO.out).mono ?_;rintro e wf ⟨rfl,hb⟩;replace HB:=wstep HB hb;replace F30:=bstep F30 hb;clear hb p0 p1 p2 p3)
       go_roundg (2-(x+1))
       case measure=>omega
       case rel=>exact ⟨x+1,by omega,by omega,by first|rfl|rw [wrap_upo x (by omega)],HB,F30⟩
      ·have hcb:(cc==0)=false:=by simp [hc0]
       clear ho hab hc0
       go_wp2_with (go_at_call 11;with_reducible refine (impl_OutcomeOf.calls k gP gL gR gB x a b cc _ HO.out).mono ?_;rintro e wf ⟨rfl,hb⟩;replace HB:=wstep HB hb;replace F30:=bstep F30 hb;clear hb p0 p1 p2 p3)
       go_roundg (2-(x+1))
       case measure=>omega
       case rel=>exact ⟨x+1,by omega,by omega,by first|rfl|rw [wrap_upo x (by omega)],HB,F30⟩
     ·have hltb:decide ((x:Int)<2)=false:=decide_eq_false (by omega)
      go_wp2
      go_meet
      case rel=>exact HB
   ·have heb:(e10==0)=false:=by simp [he]
    clear he
    go_wp2
    go_meet
    case rel=>exact HB
  case rest=>as_aux_lemma=>
   replace HB:=hcut
   clear hcut F30 C31 HKEPT l31 l33
   go_wp2
   go_loopg [41] 5 (fun gg v41 wr=>∃ x:Nat,1≤x∧x≤6∧6-x≤gg∧v41=.int .i64 x∧Aside0 (Below w.heap.size w wr))
   case atStart=>exact ⟨1,by omega,by omega,by omega,rfl,HB⟩
   case round=>as_aux_lemma=>
    clear HB
    obtain ⟨x,hx1,hx6,hgg,rfl,HB⟩:=hrel
    by_cases hlt:x<6
    ·have hltb:decide ((x:Int)<6)=true:=decide_eq_true (by omega)
     obtain ⟨G,D,b,hout,hheap,hwon,hlen,hb0⟩:=HEMP.out x hx1 (by omega)
     obtain ⟨q,hq⟩:∃ q:Int,q=((x%2:Nat):Int):=⟨_,rfl⟩
     rw [← hq] at hout
     have hq2:Int.tmod (x:Int) 2=q:=by rw [hq];rfl
     have HOU:=Aside0.mk hout
     have HWP:=Aside0.mk hwon
     have HLN:=Aside0.mk hlen
     have HB0:=Aside0.mk hb0
     obtain ⟨y,hy⟩:∃ y:List Int,y=[1]:=⟨_,rfl⟩
     have HY:=Aside0.mk hy
     rw [← hy] at hheap
     have HHG:=Aside0.mk hheap
     clear hout hheap hwon hlen hb0 hy hq
     go_upto_region 53 with (first
      |(go_at_call 11;with_reducible refine (impl_OutcomeOf.calls k x 0 0 0 q b b 0 _ HOU.out).mono ?_;rintro e wj ⟨rfl,hb⟩;replace HB:=wstep HB hb;clear hb HOU)
      |((with_reducible refine gate_dst (N:=286) rfl ?_);refine Kd.R_lit (Kd.int .i64) _ 2 ?hg (N:=286) ?hd (xs:=([1]:List Int)) (inner:=[.int .i64 1]) (ok:=fun _=>True) (okp:=fun _=>True) ?hr ?hp (fun _ hk=>hk) trivial (Below.refl _ _) (Nat.le_refl _) (by simp) ?_;(case hd=>rfl);(case hg=>rfl);(case hr=>first|(go_simp;done)|(go_simp;rfl));(case hp=>exact (Reps.one (show Kd.M (Kd.int .i64) _ _ _ 1 [.int .i64 1] from rfl) (Reps.none _ _)));intro v18 wl ho hb hg_ hnew_;clear hg_ hnew_;rw [← HY.out] at ho;replace HB:=wstep HB hb;obtain ⟨Ay,cy,rfl,ly,hC⟩:=Kd.R_reads ho;have CY:=Aside0.mk hC;clear ho hb hC)
      |(go_at_call 19;with_reducible refine (impl_HeapGame.calls k x Ay cy y G 0 _ CY.out ly HHG.out).mono ?_;rintro e wm ⟨v0,rfl,hS,hb⟩;obtain ⟨Ah,ch,rfl,lh,hC⟩:=Kd.S_reads hS;have CH:=Aside0.mk hC;replace HB:=wstep HB hb;clear hS hb hC CY HHG)
      |((with_reducible refine gate_dst (N:=45) rfl ?_);refine zX 45 #[.slice none 0 0] 43 ?_;intro gh hgh wn hbox hb;have HG3:=Aside0.mk hgh;have HB3:=Aside0.mk hb;have HX3:=Aside0.mk hbox;have p0:=zc1 HX3;have q0:=zf1 HX3;clear hgh hb hbox)
      |(go_at_call 20;obtain ⟨wp,e4⟩:∃ z,z=wn.setCell ⟨gh,0,none⟩ (.slice Ah G.length ch):=⟨_,rfl⟩;rw [← e4];obtain ⟨HS4,F4⟩:=settle1 HB3 HG3 HX3 e4;replace HB:=wstep HB HS4.out;replace CH:=cstep CH HS4.out;clear e4 HS4 HB3 HG3 HX3 F4 p0 q0;with_reducible refine (impl_WonPlaces.calls k Ah ch G D 0 _ CH.out lh HWP.out).mono ?_;rintro e wq ⟨v0,rfl,ho,hb⟩;obtain ⟨Aw,cw,rfl,lw,hC⟩:=Kd.R_reads ho;have CW:=Aside0.mk hC;replace HB:=wstep HB hb;clear ho hb hC CH HWP))
     obtain ⟨ad,e1_,hx⟩:=Kd.at_bool CW.out 0 (by omega) (by have:=HLN.out;omega)
     subst e1_
     have hlw:(0:Int)<(D.length:Int):=by have:=HLN.out;omega
     have hx2:wq.cell? ad=some (.bool (rdOf false D 0)):=by simpa [Addr.add] using hx
     rw [HB0.out] at hx hx2
     have hbb:(b !=b)=false:=by simp
     clear HB0 hq2
     go_wp2
     go_roundg (6-(x+1))
     case measure=>omega
     case rel=>exact ⟨x+1,by omega,by omega,by omega,by first|rfl|rw [wrap_upo x (by omega)],HB⟩
    ·have hltb:decide ((x:Int)<6)=false:=decide_eq_false (by omega)
     clear HEMP hx1 hx6 hgg
     have hle:decide (lo≤hi)=true:=decide_eq_true HLE.out
     go_wp2_with (first
      |(go_at_call 21;(try clear p0 p1 p2 p3);with_reducible refine (spec_DrawMovesLeft.calls k A c l hP hL hR hB hg _ (Kd.C_below HR.out HB.out) hc HD3.out).mono ?_;rintro e y81_ ⟨rfl,hb⟩;replace HB:=wstep HB hb;clear hb;clear HD3)
      |((with_reducible refine gate_dst (N:=49) rfl ?_);refine zX 49 #[.int .i64 0,.int .i64 0,.int .i64 0,.int .i64 0] 25 ?_;intro g49 hg_ y82_ hbox hb;have HG3:=Aside0.mk hg_;have HB3:=Aside0.mk hb;have HX3:=Aside0.mk hbox;obtain ⟨k0,k1,k2,k3⟩:=zc4 HX3;obtain ⟨q0,q1,q2,q3⟩:=zf4 HX3;clear hg_ hb hbox)
      |(go_at_call 22;obtain ⟨y83_,e4⟩:∃ z,z=(((y82_.setCell ⟨g49,0,none⟩ (.int .i64 hP)).setCell ⟨g49,1,none⟩ (.int .i64 hL)).setCell ⟨g49,2,none⟩ (.int .i64 hR)).setCell ⟨g49,3,none⟩ (.int .i64 hB):=⟨_,rfl⟩;rw [← e4];obtain ⟨HS4,G49⟩:=settle4 HB3 HG3 HX3 e4;replace HB:=wstep HB HS4.out;have F49:=G49;clear e4 HS4 HB3 HG3 HX3 G49;(try clear k0 k1 k2 k3 q0 q1 q2 q3);(try clear p0 p1 p2 p3);with_reducible refine (impl_MovesLeft.calls k hP hL hR hB hg lo hi e17 _ HI4.out).mono ?_;rintro e y84_ ⟨rfl,hb⟩;replace HB:=wstep HB hb;replace F49:=bstep F49 hb;clear hb;obtain ⟨p0,p1,p2,p3⟩:=zc4 F49;clear HI4)
      |(go_at_call 23;(try clear p0 p1 p2 p3);with_reducible refine (spec_MovesLeft.calls k hP hL hR hB hg lo hi e17 _ HS4.out).mono ?_;rintro e y85_ ⟨rfl,hb⟩;replace HB:=wstep HB hb;replace F49:=bstep F49 hb;clear hb;clear HS4)
      |(go_at_call 24;(try clear p0 p1 p2 p3);with_reducible refine (spec_DrawIsMatching.calls k A c l uP uL uR uB M _ (Kd.C_below HR.out HB.out) hc HD4.out).mono ?_;rintro e y86_ ⟨v_,rfl,ho,hb⟩;replace HB:=wstep HB hb;replace F49:=bstep F49 hb;clear hb;obtain ⟨A58,c58,rfl,l58,hC⟩:=Kd.R_reads ho;have C58:=Aside0.mk hC;clear ho hC;clear HD4 F49)
      |((with_reducible refine gate_dst (N:=57) rfl ?_);refine zX 57 #[.int .i64 0,.int .i64 0,.int .i64 0,.int .i64 0] 25 ?_;intro g57 hg_ y87_ hbox hb;have HG3:=Aside0.mk hg_;have HB3:=Aside0.mk hb;have HX3:=Aside0.mk hbox;obtain ⟨k0,k1,k2,k3⟩:=zc4 HX3;obtain ⟨q0,q1,q2,q3⟩:=zf4 HX3;clear hg_ hb hbox)
      |(go_at_call 18;obtain ⟨y88_,e4⟩:∃ z,z=(((y87_.setCell ⟨g57,0,none⟩ (.int .i64 uP)).setCell ⟨g57,1,none⟩ (.int .i64 uL)).setCell ⟨g57,2,none⟩ (.int .i64 uR)).setCell ⟨g57,3,none⟩ (.int .i64 uB):=⟨_,rfl⟩;rw [← e4];obtain ⟨HS4,G57⟩:=settle4 HB3 HG3 HX3 e4;replace HB:=wstep HB HS4.out;replace C58:=cstep C58 HS4.out;have F57:=G57;clear e4 HS4 HB3 HG3 HX3 G57;(try clear k0 k1 k2 k3 q0 q1 q2 q3);(try clear p0 p1 p2 p3);with_reducible refine (impl_IsMatching.calls k uP uL uR uB A58 c58 M mb e19 _ C58.out l58 HI5.out).mono ?_;rintro e y89_ ⟨rfl,hb⟩;replace HB:=wstep HB hb;replace F57:=bstep F57 hb;replace C58:=cstep C58 hb;clear hb;obtain ⟨p0,p1,p2,p3⟩:=zc4 F57;clear HI5)
      |(go_at_call 25;(try clear p0 p1 p2 p3);with_reducible refine (spec_IsMatching.calls k uP uL uR uB A58 c58 M mb e19 _ C58.out l58 HS5.out).mono ?_;rintro e y90_ ⟨rfl,hb⟩;replace HB:=wstep HB hb;replace F57:=bstep F57 hb;replace C58:=cstep C58 hb;clear hb;clear HS5))
     go_ret
     exact ⟨zE,HB.out⟩
end Go.Proofs.YtlmohkbimnhecaaGreat.Q
