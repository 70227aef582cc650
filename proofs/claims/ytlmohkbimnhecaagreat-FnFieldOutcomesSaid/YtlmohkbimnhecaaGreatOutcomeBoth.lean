/-
  What both sides answer to the questions of the law FnFieldOutcomes, and what holds of the answers. Whatever the field is.
-/
import Derived.Test.YtlmohkbimnhecaaGreatQ5
import Derived.Test.YtlmohkbimnhecaaGreatQ7
import Derived.Test.YtlmohkbimnhecaaGreatQ8
import Derived.Test.YtlmohkbimnhecaaGreatQ9
import Derived.Test.YtlmohkbimnhecaaGreatOutLeft
import Derived.Test.YtlmohkbimnhecaaGreatOutcomeDefs
import Derived.Test.YtlmohkbimnhecaaGreatFieldSides
import Derived.Test.YtlmohkbimnhecaaGreatField
import Derived.Test.YtlmohkbimnhecaaGreatMatchPure
import Derived.Test.YtlmohkbimnhecaaGreatBase
set_option linter.unusedVariables false
set_option linter.unusedSectionVars false
namespace Go.Proofs.YtlmohkbimnhecaaGreat.B
open Go.RowKit Go.Proofs.YtlmohkbimnhecaaGreat.Q Go.Proofs.YtlmohkbimnhecaaGreatW.PrintWords Go.Proofs.YtlmohkbimnhecaaGreatW.PrintLast Go.Proofs.YtlmohkbimnhecaaGreatW.PrintMore
theorem ev_one {α:Type} {f:Nat→Option α} {a b:α} (h:Ev f a) (g:Ev f b):a=b:=by
 obtain ⟨N,hN⟩:=h
 obtain ⟨M,hM⟩:=g
 have h1:=hN (N+M) (by omega)
 rw [hM (N+M) (by omega)] at h1
 exact (Option.some.inj h1).symm
def topL (P:Int):Int:=wrap64 (shl .i64 1 (trI P)-1)
theorem field_parts (P L R B:Int) (h:impl_IsField.f P L R B=some true):(1≤P∧P≤8)∧(0≤L∧L≤topL P)∧∃ a b:Nat,R=a∧B=b∧Two P.toNat a b:=by
 have hP:=field_facts P L R B h
 refine ⟨hP,?_,field_two P L R B h⟩
 obtain ⟨t0,_,_⟩:=trI_range P (by omega) (by omega)
 unfold impl_IsField.f impl_pairs.f at h
 simp only [within_eq,Option.bind_some] at h
 rw [decide_eq_true hP,show wrap64 (Int.tdiv (wrap64 (P*(wrap64 (P-1)))) 2)=trI P from rfl,if_pos rfl,if_pos t0] at h
 split at h
 ·rename_i hl
  exact of_decide_eq_true hl
 ·cases h
theorem field_of {P L:Int} (hP:1≤P∧P≤8) (hL:0≤L∧L≤topL P) {a b:Nat} (h:Two P.toNat a b):impl_IsField.f P L a b=some true:=by
 obtain ⟨t0,_,_⟩:=trI_range P (by omega) (by omega)
 have hs:=shl_one P (by omega) (by omega)
 have hp:=pow_le P 8 (by omega)
 have hq:=pow_pos' P
 have hf:wrap64 (shl .i64 1 P-1)=((2 ^ P.toNat:Nat):Int)-1:=by rw [hs,wrap_in (by omega) (by omega)]
 obtain ⟨h1,h2,h3⟩:=h
 have hz:a&&&b=0:=by
  refine Nat.eq_of_testBit_eq (fun i=>?_)
  rw [Nat.testBit_and,Nat.zero_testBit]
  have:=(dg_three a b i).1 (h3 i)
  cases ha:a.testBit i<;>cases hb:b.testBit i<;>simp_all
 unfold impl_IsField.f impl_pairs.f
 simp only [within_eq,Option.bind_some]
 rw [hf,decide_eq_true hP,show wrap64 (Int.tdiv (wrap64 (P*(wrap64 (P-1)))) 2)=trI P from rfl,if_pos rfl,if_pos t0,show wrap64 (shl .i64 1 (trI P)-1)=topL P from rfl,decide_eq_true hL,if_pos rfl,if_pos (by omega),decide_eq_true (show 0≤(a:Int)∧(a:Int)≤((2 ^ P.toNat:Nat):Int)-1 by omega),if_pos rfl,decide_eq_true (show 0≤(b:Int)∧(b:Int)≤((2 ^ P.toNat:Nat):Int)-1 by omega),if_pos rfl,
  and_nat a b (Nat.lt_of_lt_of_le h1 (Nat.pow_le_pow_right (by decide) (by omega))) (Nat.lt_of_lt_of_le h2 (Nat.pow_le_pow_right (by decide) (by omega))),hz]
 rfl
theorem top_wf {P L:Int} (hL:0≤L∧L≤topL P):(Lit.int .i64 L).wf=true:=by
 have:topL P≤9223372036854775807:=by unfold topL wrap64;omega
 exact WalkArith.wf_i64 (by omega)
theorem code_parts {P L R B g p:Int} (h:codeF P L R B g p true=0):(0≤g∧g≤1)∧(0≤p∧p≤1)∧fairB P L R B g=true:=by
 obtain ⟨_,h1,h2⟩:=codeF_zero P L R B g p true h
 refine ⟨h1,h2,?_⟩
 unfold codeF at h
 rw [if_pos rfl,if_pos ⟨h1,h2⟩] at h
 split at h
 ·assumption
 ·omega
theorem code_of {P L R B g p:Int} (hg:0≤g∧g≤1) (hp:0≤p∧p≤1) (hf:fairB P L R B g=true):codeF P L R B g p true=0:=by
 unfold codeF
 rw [if_pos rfl,if_pos ⟨hg,hp⟩,if_pos hf]
theorem outcome_val {P L g:Int} (hP:1≤P∧P≤8) (hL:0≤L∧L≤topL P) {a b:Nat} (h:Two P.toNat a b) (hg:0≤g∧g≤1) (hf:fairB P L a b g=true):Ev (fun k=>impl_OutcomeOf.f k P L a b g) (W P L g a b 0,W P L g a b 1,0):=by
 unfold impl_OutcomeOf.f
 have h2:=code_impl P L a b g 0 true (field_of hP hL h)
 rw [code_of hg (by omega) hf] at h2
 exact evB h2 (evT rfl (evB (wins_impl P L g hP (top_wf hL) 12 a b 0 (.inl rfl) h (fr_small _ _ P hP)) (evB (wins_impl P L g hP (top_wf hL) 12 a b 1 (.inr rfl) h (fr_small _ _ P hP)) (evS _))))
theorem outcome_any (P L R B g:Int):∃ (x y:Bool) (c:Int),Ev (fun k=>impl_OutcomeOf.f k P L R B g) (x,y,c)∧(c=0→∃ a b:Nat,R=a∧B=b∧x=W P L g a b 0∧y=W P L g a b 1):=by
 obtain ⟨b,hb⟩:=field_total P L R B
 by_cases c:codeF P L R B g 0 b=0
 ·obtain ⟨rfl,_,_⟩:=codeF_zero P L R B g 0 b c
  obtain ⟨hP,hL,m,n,rfl,rfl,h⟩:=field_parts P L R B hb
  obtain ⟨hg,_,hf⟩:=code_parts c
  exact ⟨_,_,0,outcome_val hP hL h hg hf,fun _=>⟨m,n,rfl,rfl,rfl,rfl⟩⟩
 ·have h2:=code_impl P L R B g 0 b hb
  refine ⟨false,false,codeF P L R B g 0 b,?_,fun h=>absurd h c⟩
  unfold impl_OutcomeOf.f
  exact evB h2 (evF c (evS _))
theorem play_both (P L R B g p:Int) (b:Bool) (hb:impl_IsField.f P L R B=some b):∃ l:List Int,l.length≤9∧Ev (fun k=>spec_PlayField.f k P L R B g p) (l,codeF P L R B g p b)∧Ev (fun k=>impl_PlayField.f k P L R B g p) (l,codeF P L R B g p b)∧(codeF P L R B g p b=0→l=playM P L g 9 R.toNat B.toNat p):=by
 unfold spec_PlayField.f impl_PlayField.f
 have h1:=code_spec P L R B g p b hb
 have h2:=code_impl P L R B g p b hb
 by_cases c:codeF P L R B g p b=0
 ·obtain ⟨rfl,_,hp⟩:=codeF_zero P L R B g p b c
  obtain ⟨hP,hL,m,n,rfl,rfl,h⟩:=field_parts P L R B hb
  rw [c] at h1 h2 ⊢
  have hfr:=fr_le m n P.toNat
  have h3:=play_spec hP 8 m n p [] _ (by omega) h (by omega) (by simp) (TabW.new P L g)
  have h4:=play_impl (g:=g) hP (top_wf hL) 8 m n p 40 [] (by omega) h (by omega) (by omega) (by simp)
  rw [List.nil_append] at h3 h4
  exact ⟨playM P L g (8+1) m n p,playM_len P L g (8+1) m n p,evB h1 (evT rfl (evB (table_spec P L m n hP) h3)),evB h2 (evT rfl (evB h4 (evS _))),fun _=>rfl⟩
 ·exact ⟨[],by simp,evB h1 (evF c (evS _)),evB h2 (evF c (evS _)),fun h=>absurd h c⟩
theorem best_both (P L R B g p:Int) (b:Bool) (hb:impl_IsField.f P L R B=some b):∃ l:List Int,l.length≤8∧Ev (fun k=>spec_BestPoints.f k P L R B g p) (l,codeF P L R B g p b)∧Ev (fun k=>impl_BestPoints.f k P L R B g p) (l,codeF P L R B g p b)∧(codeF P L R B g p b=0→l=bestL P L g R.toNat B.toNat p):=by
 unfold spec_BestPoints.f impl_BestPoints.f
 have h1:=code_spec P L R B g p b hb
 have h2:=code_impl P L R B g p b hb
 by_cases c:codeF P L R B g p b=0
 ·obtain ⟨rfl,_,hp⟩:=codeF_zero P L R B g p b c
  obtain ⟨hP,hL,m,n,rfl,rfl,h⟩:=field_parts P L R B hb
  rw [c] at h1 h2 ⊢
  obtain ⟨T1,h3,h4⟩:=best_spec P L g hP m n p (by omega) h _ (TabW.new P L g)
  exact ⟨bestL P L g m n p,bestL_len P L g m n p hP.2,evB h1 (evT rfl (evB (table_spec P L m n hP) (evB h3 (evS _)))),evB h2 (evT rfl (evB (best_impl P L g hP (top_wf hL) m n p (by omega) h) (evS _))),fun _=>rfl⟩
 ·exact ⟨[],by simp,evB h1 (evF c (evS _)),evB h2 (evF c (evS _)),fun h=>absurd h c⟩
theorem left_both (P L R B g:Int):∃ lo hi c:Int,Ev (fun k=>spec_MovesLeft.f k P L R B g) (lo,hi,c)∧Ev (fun k=>impl_MovesLeft.f k P L R B g) (lo,hi,c)∧lo≤hi:=by
 unfold spec_MovesLeft.f impl_MovesLeft.f
 obtain ⟨b,hb⟩:=field_total P L R B
 have h1:=code_spec0 P L R B g b hb
 have h2:=code_impl P L R B g 0 b hb
 by_cases c:codeF P L R B g 0 b=0
 ·obtain ⟨rfl,_,hp⟩:=codeF_zero P L R B g 0 b c
  obtain ⟨hP,hL,m,n,rfl,rfl,h⟩:=field_parts P L R B hb
  rw [c] at h1 h2
  have hfr:=fr_le m n P.toNat
  obtain ⟨T',h3,_⟩:=left_spec (g:=g) hP (fr m n P.toNat+1) m n 0 _ (.inl rfl) h (by omega) (TabL.new P L g)
  have h4:=left_impl (g:=g) hP (top_wf hL) 12 m n 0 (.inl rfl) h (by omega)
  exact ⟨(lf P L g m n 0).1,(lf P L g m n 0).2,0,evB h1 (evT rfl (evB (table_spec P L m n hP) (evB h3 (evS _)))),evB h2 (evT rfl (evB h4 (evS _))),lf_le (g:=g) hP _ m n 0 h (Nat.lt_succ_self _)⟩
 ·exact ⟨0,0,codeF P L R B g 0 b,evB h1 (evF c (evS _)),evB h2 (evF c (evS _)),Int.le_refl _⟩
theorem index_l (l:List Int) (x:Int) (hl:l.length≤1000000) (d:Nat):∀ i:Int,0≤i→(l.length:Int)=i+d→∃ r:Int,(decide (r≥0)=(l.drop i.toNat).contains x)∧Ev (fun k=>slices_Index_int64_int64.l0 k l x (l.length:Int) i) r:=by
 induction d with
 |zero=>
  intro i h0 h1
  refine ⟨-1,?_,evSucc (fun k=>by rw [slices_Index_int64_int64.l0]) (evF (by omega) (evS _))⟩
  rw [List.drop_eq_nil_of_le (by omega)]
  rfl
 |succ d ih=>
  intro i h0 h1
  have hi:i.toNat<l.length:=by omega
  have hd:l.drop i.toNat=l[i.toNat]::l.drop (i+1).toNat:=by rw [List.drop_eq_getElem_cons hi,show (i+1).toNat=i.toNat+1 by omega]
  have hr:rd l i=l[i.toNat]:=by simp [rd,List.getD_eq_getElem?_getD,hi]
  by_cases c:x=rd l i
  ·refine ⟨i,?_,evSucc (fun k=>by rw [slices_Index_int64_int64.l0]) (evT (by omega) (evT h0 (evT (by omega) (evT c (evS _)))))⟩
   rw [hd,decide_eq_true (by omega),c,hr]
   simp
  ·obtain ⟨r,h2,h3⟩:=ih (i+1) (by omega) (by omega)
   refine ⟨r,?_,evSucc (fun k=>by rw [slices_Index_int64_int64.l0]) (evT (by omega) (evT h0 (evT (by omega) (evF c (by rw [wrap_in (x:=i+1) (by omega) (by omega)];exact h3)))))⟩
   rw [h2,hd,List.contains_cons,← hr,show (x==rd l i)=false from beq_eq_false_iff_ne.2 c,Bool.false_or]
theorem contains_ev (l:List Int) (x:Int) (hl:l.length≤1000000):Ev (fun k=>slices_Contains_int64_int64.f k l x) (l.contains x):=by
 obtain ⟨r,h1,h2⟩:=index_l l x hl l.length 0 (by omega) (by omega)
 unfold slices_Contains_int64_int64.f slices_Index_int64_int64.f
 refine evB h2 (evE ?_ (evS _))
 rw [h1]
 rfl
theorem colour_val {P L R B g p i:Int} (hb:impl_IsField.f P L R B=some true) (hc:codeF P L R B g p true=0) (hm:i∈ptsL P L R B g p):Ev (fun k=>impl_ColourPoint.f k P L R B g p i) (P,L,mvR R p i,mvB B p i,0):=by
 have hP:=field_facts P L R B hb
 have hs:=(mem_seg _ _ _).1 (List.mem_filter.1 hm).1
 have h2:=code_impl P L R B g p true hb
 rw [hc] at h2
 unfold impl_ColourPoint.f
 rw [hb,within_eq,wrap_in (x:=P-1) (by omega) (by omega),decide_eq_true (show 0≤i∧i≤P-1 by omega)]
 refine evG rfl (evG rfl (evB (first_two _ _ _ _) (evT (by simp) (evB h2 ?_))))
 refine evSucc (fun k=>by rw [impl_ColourPoint.j0]) (evT rfl (evB (points_impl P L R B g p hP) (evB (contains_ev (ptsL P L R B g p) i (by have:=ptsL_len P L R B g p hP.2;omega)) ?_)))
 rw [List.contains_iff_mem.2 hm]
 refine evSucc (fun k=>by rw [impl_ColourPoint.j1]) (evF (by decide) (evT rfl ?_))
 rw [coloured_impl P L R B p i (by omega)]
 exact evG rfl (evS _)
theorem points_val {P L R B g p:Int} (hb:impl_IsField.f P L R B=some true) (hc:codeF P L R B g p true=0):Ev (fun k=>impl_PointsFor.f k P L R B g p) (ptsL P L R B g p,0):=by
 unfold impl_PointsFor.f
 have h2:=code_impl P L R B g p true hb
 rw [hc] at h2
 exact evB h2 (evT rfl (evB (points_impl P L R B g p (field_facts P L R B hb)) (evS _)))
theorem moves_ok {P L g:Int} (hP:1≤P∧P≤8) (hL:0≤L∧L≤topL P) (hg:0≤g∧g≤1) (d:Nat):∀ (a b:Nat) (p:Int),(p=0∨p=1)→Two P.toNat a b→fairB P L a b g=true→fr a b P.toNat<d→∃ N,∀ k,N≤k→movesF k P L g (playM P L g d a b p) a b p:=by
 induction d with
 |zero=>intro a b p _ _ _ h;omega
 |succ d ih=>
  intro a b p hp h hf hm
  have hb:=field_of hP hL h
  have hc:codeF P L a b g p true=0:=code_of hg (by omega) hf
  cases e:bestL P L g a b p++ptsL P L a b g p with
  |nil=>
   rw [playM_nil d e]
   obtain ⟨_,e2⟩:=List.append_eq_nil_iff.1 e
   obtain ⟨N,hN⟩:=points_val (p:=p) hb hc
   rw [e2] at hN
   exact ⟨N,hN⟩
  |cons x q=>
   rw [playM_cons d e]
   have hmem:x∈ptsL P L a b g p:=by
    have hx:x∈bestL P L g a b p++ptsL P L a b g p:=by rw [e];exact List.mem_cons_self
    rcases List.mem_append.1 hx with h1|h1
    ·exact (List.mem_filter.1 h1).1
    ·exact h1
   obtain ⟨h0,h1,h2,h3⟩:=ptsL_free P L g p a b hP h x hmem
   obtain ⟨h4,h5⟩:=h.move p x h2 h3
   have hs:=h.small (by omega)
   have eR:=mvR_nat a p x hs.1 h0 (by omega)
   have eB:=mvB_nat b p x hs.2 h0 (by omega)
   obtain ⟨N1,n1⟩:=colour_val hb hc hmem
   rw [eR,eB] at n1
   have hok:=(List.mem_filter.1 hmem).2
   unfold okP at hok
   rw [Bool.and_eq_true,eR,eB] at hok
   obtain ⟨N2,n2⟩:=ih _ _ (1-p) (by omega) h4 hok.2 (by omega)
   exact ⟨N1+N2,fun k hk=>⟨_,_,n1 k (by omega),hp,n2 k (by omega)⟩⟩
theorem play_ok {P L R B g p:Int} (hb:impl_IsField.f P L R B=some true) (hc:codeF P L R B g p true=0):∃ N,∀ k,N≤k→∃ a b,PlayOk k P L R B g p (bestL P L g R.toNat B.toNat p) (playM P L g 9 R.toNat B.toNat p) a b:=by
 obtain ⟨hP,hL,m,n,rfl,rfl,h⟩:=field_parts P L R B hb
 obtain ⟨hg,hp,hf⟩:=code_parts hc
 rw [Int.toNat_natCast,Int.toNat_natCast]
 have hfr:=fr_le m n P.toNat
 have hlen:=playM_len P L g 9 m n p
 have hbw:=best_wins (L:=L) (g:=g) hP m n p h
 have hodd:=play_odd (L:=L) (g:=g) hP 9 m n p (by omega) h (by omega)
 obtain ⟨N1,n1⟩:=outcome_val hP hL h hg hf
 have hf2:fairB P L n m g=true:=by rw [fairB_swap];exact hf
 obtain ⟨N2,n2⟩:=outcome_val hP hL h.swap hg hf2
 have s0:=W_swap (L:=L) (g:=g) hP 12 m n 0 (.inl rfl) h (fr_small _ _ P hP)
 have s1:=W_swap (L:=L) (g:=g) hP 12 m n 1 (.inr rfl) h (fr_small _ _ P hP)
 rw [show (1:Int)-0=1 from rfl] at s0
 rw [show (1:Int)-1=0 from rfl] at s1
 rw [s0,s1] at n2
 obtain ⟨N3,n3⟩:=moves_ok hP hL hg 9 m n p (by omega) h hf (by omega)
 have hodd2:W P L g m n p=decide ((playM P L g 9 m n p).length%2=1):=by
  by_cases c:(playM P L g 9 m n p).length%2=1
  ·rw [decide_eq_true c,hodd.1 c]
  ·rw [decide_eq_false c]
   cases e:W P L g m n p with
   |true=>exact absurd (hodd.2 e) c
   |false=>rfl
 refine ⟨N1+N2+N3,fun k hk=>⟨W P L g m n 0,W P L g m n 1,n1 k (by omega),?_,n2 k (by omega),fun h1=>?_,fun h1=>?_,by omega,n3 k (by omega)⟩⟩
 ·unfold impl_ExchangeSides.f
  rw [hb]
  rfl
 ·subst h1
  exact ⟨hbw,hodd2⟩
 ·obtain rfl:p=0:=by omega
  exact ⟨hbw,hodd2⟩
theorem empty_ok:∃ N,∀ k,N≤k→∀ x:Nat,1≤x→x≤5→emptyOk k x:=by
 have heap:∀ (x:Int) (G:List (List Int)) (D:List Bool),impl_HeapGame.f 40 x [1]=some (G,0)→impl_WonPlaces.f 40 G=some (D,0)→∀ k,40≤k→impl_HeapGame.f k x [1]=some (G,0)∧impl_WonPlaces.f k G=some (D,0):=fun x G D h1 h2 k hk=>
  ⟨at_rounds (g:=fun k=>impl_HeapGame.f k x [1]) (fun k=>impl_HeapGame.mono _ _ k) hk h1,at_rounds (g:=fun k=>impl_WonPlaces.f k G) (fun k=>impl_WonPlaces.mono _ k) hk h2⟩
 have out:∀ x:Nat,1≤x→x≤5→Ev (fun k=>impl_OutcomeOf.f k (x:Int) 0 0 0 ((x%2:Nat):Int)) (decide (x%2=1),decide (x%2=1),0):=fun x h1 h5=>by
  have hP:1≤(x:Int)∧(x:Int)≤8:=by omega
  have ht:0≤topL (x:Int):=by
   have:∀ m:Fin 6,1≤m.val→0≤topL ((m.val:Nat):Int):=by decide +kernel
   exact this ⟨x,by omega⟩ h1
  have hz:=two_zero (x:Int).toNat
  have hv:=outcome_val (g:=((x%2:Nat):Int)) hP ⟨Int.le_refl 0,ht⟩ hz (by omega) (fair_none _ _ _ _)
  rw [W_none hP 9 0 0 0 hz (by rw [fr_full];omega),W_none hP 9 0 0 1 hz (by rw [fr_full];omega),fr_full,Int.toNat_natCast] at hv
  exact hv
 obtain ⟨N1,n1⟩:=out 1 (by decide) (by decide)
 obtain ⟨N2,n2⟩:=out 2 (by decide) (by decide)
 obtain ⟨N3,n3⟩:=out 3 (by decide) (by decide)
 obtain ⟨N4,n4⟩:=out 4 (by decide) (by decide)
 obtain ⟨N5,n5⟩:=out 5 (by decide) (by decide)
 refine ⟨N1+N2+N3+N4+N5+40,fun k hk x h1 h5=>?_⟩
 have hx:x=1∨x=2∨x=3∨x=4∨x=5:=by omega
 rcases hx with rfl|rfl|rfl|rfl|rfl
 ·obtain ⟨a,b⟩:=heap 1 [[1],[]] [true,false] (by decide +kernel) (by decide +kernel) k (by omega)
  exact ⟨_,_,_,n1 k (by omega),a,b,by decide,by rfl⟩
 ·obtain ⟨a,b⟩:=heap 2 [[1],[2],[]] [false,true,false] (by decide +kernel) (by decide +kernel) k (by omega)
  exact ⟨_,_,_,n2 k (by omega),a,b,by decide,by rfl⟩
 ·obtain ⟨a,b⟩:=heap 3 [[1],[2],[3],[]] [true,false,true,false] (by decide +kernel) (by decide +kernel) k (by omega)
  exact ⟨_,_,_,n3 k (by omega),a,b,by decide,by rfl⟩
 ·obtain ⟨a,b⟩:=heap 4 [[1],[2],[3],[4],[]] [false,true,false,true,false] (by decide +kernel) (by decide +kernel) k (by omega)
  exact ⟨_,_,_,n4 k (by omega),a,b,by decide,by rfl⟩
 ·obtain ⟨a,b⟩:=heap 5 [[1],[2],[3],[4],[5],[]] [true,false,true,false,true,false] (by decide +kernel) (by decide +kernel) k (by omega)
  exact ⟨_,_,_,n5 k (by omega),a,b,by decide,by rfl⟩
theorem kept_both (P L R B:Int):∃ (l:List Int) (c:Int),l.length≤8∧Ev (fun k=>spec_FindKept.f k P L R B) (l,c)∧Ev (fun k=>impl_FindKept.f k P L R B) (l,c) ∧
 (c=0→impl_IsField.f P L R B=some true∧∃ a b:Nat,R=a∧B=b∧Kept2 P L l∧Mir P a b l∧(l.length:Int)=P):=by
 unfold spec_FindKept.f impl_FindKept.f
 rw [isField_same]
 obtain ⟨b,hb⟩:=field_total P L R B
 rw [hb]
 cases b with
 |false=>exact ⟨[],1,by simp,evG rfl (evF (by decide) (evS _)),evG rfl (evF (by decide) (evS _)),fun h=>absurd h (by decide)⟩
 |true=>
  have hP:=field_facts P L R B hb
  obtain ⟨m,n,rfl,rfl,h2⟩:=field_two P L R B hb
  have hI:Inv P (List.replicate P.toNat (-1)):=⟨by simp;omega,fun x h0 h1=>.inl (rd_rep _ x _ h0 (by omega))⟩
  have hT:Told P 0 (List.replicate P.toNat (-1)):=⟨by omega,fun x h0 h1=>by omega⟩
  have hm:mt P L (List.replicate P.toNat (-1))=true:=by
   rw [mt_iff]
   intro x y h0 h1 h2 h3
   rw [rd_rep _ x _ (by omega) (by omega)] at h3
   omega
  obtain ⟨r1,hr1,ht1⟩:=from_impl (L:=L) hP h2 (P.toNat+1) 0 _ hI hT (by omega)
  obtain ⟨r2,hr2,ht2⟩:=from_spec (L:=L) hP h2 (P.toNat+1) 0 _ hI hT (by omega)
  rw [← Mo_Ko hP.1 _ _ hI hm] at ht2
  have hrep:slices_Repeat.f [(-1)] P=some (List.replicate P.toNat (-1)):=by
   unfold slices_Repeat.f
   rw [if_pos ⟨rfl,by omega,by omega⟩]
   rfl
  cases ho:Mo P L m n (P.toNat+1) (List.replicate P.toNat (-1)) with
  |none=>
   rw [ho] at ht1 ht2
   refine ⟨[],4,by simp,evG rfl (evT rfl (begin_spec hP m n _ ?_ P.toNat 0 (by omega) (by omega))),evG rfl (evT rfl (evG hrep (evB hr1 (evF (by rw [ht1.1];decide) (evS _))))),fun h=>absurd h (by decide)⟩
   exact evB hr2 (evF (by rw [ht2.1];decide) (evS _))
  |some z=>
   have hk:=ho
   rw [Mo_Ko hP.1 _ _ hI hm] at hk
   obtain ⟨k1,k2,k3⟩:=Ko_kept hP.1 _ _ z hI hm (fun x h0 h1 hx=>by
    rw [rd_rep _ x _ h0 (by omega)] at hx
    omega) hk
   rw [ho] at ht1 ht2
   have hz:=Mo_len _ _ _ ho
   refine ⟨z,0,by rw [hz];simp;omega,evG rfl (evT rfl (begin_spec hP m n _ ?_ P.toNat 0 (by omega) (by omega))),evG rfl (evT rfl (evG hrep (evB hr1 (evT (by rw [ht1.1];rfl) (evE (by rw [ht1.2 z rfl]) (evS _)))))),fun _=>⟨by first|exact hb|rfl,m,n,rfl,rfl,k1,k2,k3⟩⟩
   exact evB hr2 (evT (by rw [ht2.1];rfl) (evE (by rw [ht2.2 z rfl]) (evS _)))
theorem both_match (P L R B:Int) (l:List Int) (hl:l.length≤1048576):∃ b c,Ev (fun k=>spec_IsMatching.f k P L R B l) (b,c)∧Ev (fun k=>impl_IsMatching.f k P L R B l) (b,c):=by
 obtain ⟨f,hf⟩:=field_total P L R B
 have hs:spec_l05Is.f P L R B=some f:=by rw [isField_same];exact hf
 have hlist:=listF_ev P l hl
 unfold spec_IsMatching.f impl_IsMatching.f
 cases f with
 |false=>
  refine ⟨false,1,evG hs (evF (by decide) (evS _)),evT (by omega) (evB hlist (evG hf (evB (first_two _ _ 1 2) (evF (by simp) (evE (by simp) (evS _))))))⟩
 |true=>
  have hP:=field_facts P L R B hf
  obtain ⟨b,hb,hbg⟩:=order_ev P hP l hl
  have hw:wrap64 (P-1)=P-1:=wrap_in (by omega) (by omega)
  have heq:(decide ((l.length:Int)=P)&&risF 0 (wrap64 (P-1)) (srt l) (srt l).length 0)=b:=by
   rw [hw]
   cases b with
   |true=>
    obtain ⟨h1,h2⟩:=hbg.1 rfl
    rw [decide_eq_true h2,(ris_good (P-1) l).2 h1]
    rfl
   |false=>
    rw [Bool.eq_false_iff]
    intro h
    rw [Bool.and_eq_true,decide_eq_true_eq] at h
    have:=hbg.2 ⟨(ris_good (P-1) l).1 h.2,h.1⟩
    cases this
  rw [heq] at hlist
  cases b with
  |false=>exact ⟨false,2,evG hs (evT rfl (evB hb (evF (by decide) (evS _)))),evT (by omega) (evB hlist (evG hf (evB (first_two _ _ 1 2) (evF (by simp) (evE (by simp) (evS _))))))⟩
  |true=>
   obtain ⟨h1,h2⟩:=hbg.1 rfl
   obtain ⟨m,m1,m2⟩:=match_outer (L:=L) (R:=R) (B:=B) hP h2 h1 P.toNat 0 (by omega) (by omega)
   refine ⟨m,0,evG hs (evT rfl (evB hb (evT rfl (evB (show Ev (fun k=>spec_l05Matches.f k P L R B l) m from m1) (evS _))))),evT (by omega) (evB hlist (evG hf (evB (first_two _ _ 1 2) (evT (by decide) (evB (show Ev (fun k=>impl_Field_isMatching.f k P L R B l) m from m2) (evS _))))))⟩
theorem kept_ok {P L:Int} {a b:Nat} {z:List Int} (hb:impl_IsField.f P L a b=some true) (K:Kept2 P L z) (hM:Mir P a b z) (hz:(z.length:Int)=P):∃ N,∀ k,N≤k→keptOk k P L a b z:=by
 obtain ⟨hP,hL,m,n,e1,e2,h2⟩:=field_parts P L a b hb
 obtain rfl:a=m:=by omega
 obtain rfl:b=n:=by omega
 have hI:Inv P z:=⟨hz,fun x h0 h1=>.inr (K.inv x h0 h1)⟩
 have hm:mt P L z=true:=mt_iff.2 (fun x y h0 h1 h2 _ _=>K.same x y (by omega) (by omega) h0 (by omega) (by omega))
 have hgood:Good (P-1) z:=by
  refine ⟨List.nodup_iff_pairwise_ne.2 (List.pairwise_iff_getElem.2 (fun i j hi hj hij e=>?_)),fun x hx=>?_⟩
  ·have h3:rd z (i:Int)=rd z (j:Int):=by rw [rd_nat z i hi,rd_nat z j hj,e]
   have h4:=(K.inv (i:Int) (by omega) (by omega)).2.2
   have h5:=(K.inv (j:Int) (by omega) (by omega)).2.2
   rw [h3] at h4
   omega
  ·obtain ⟨i,hi,rfl⟩:=List.getElem_of_mem hx
   have:=(K.inv (i:Int) (by omega) (by omega)).1
   rw [rd_nat z i hi] at this
   omega
 obtain ⟨r,c,hs,hi⟩:=both_match P L a b z (by omega)
 obtain ⟨o,ho,hog⟩:=order_ev P hP z (by omega)
 obtain rfl:o=true:=hog.2 ⟨hgood,hz⟩
 have hs2:Ev (fun k=>spec_IsMatching.f k P L a b z) (true,0):=by
  unfold spec_IsMatching.f
  refine evG (show spec_l05Is.f P L a b=some true by rw [isField_same];exact hb) (evT rfl (evB ho (evT rfl (evB (matches_spec (R:=a) (B:=b) hP hI) ?_))))
  rw [hm]
  exact evS _
 have e:=ev_one hs hs2
 rw [e] at hi
 obtain ⟨N,hN⟩:=hi
 have key:∀ x:Nat,x<2→∃ (p q:Bool) (c:Int),Ev (fun k=>impl_OutcomeOf.f k P L a b x) (p,q,c)∧(c=0→p=false∧q=false):=by
  intro x hx
  obtain ⟨p,q,c,h3,h4⟩:=outcome_any P L a b x
  refine ⟨p,q,c,h3,fun hc=>?_⟩
  obtain ⟨m,n,e1,e2,rfl,rfl⟩:=h4 hc
  obtain rfl:a=m:=by omega
  obtain rfl:b=n:=by omega
  exact ⟨mirror_lost hP K 12 a b 0 (.inl rfl) h2 hM (fr_small _ _ P hP),mirror_lost hP K 12 a b 1 (.inr rfl) h2 hM (fr_small _ _ P hP)⟩
 obtain ⟨p0,q0,c0,⟨N0,n0⟩,g0⟩:=key 0 (by decide)
 obtain ⟨p1,q1,c1,⟨N1,n1⟩,g1⟩:=key 1 (by decide)
 refine ⟨N+N0+N1,fun k hk=>⟨hN k (by omega),fun x hx=>?_⟩⟩
 have h01:x=0∨x=1:=by omega
 rcases h01 with rfl|rfl
 ·exact ⟨p0,q0,c0,n0 k (by omega),g0⟩
 ·exact ⟨p1,q1,c1,n1 k (by omega),g1⟩
end Go.Proofs.YtlmohkbimnhecaaGreat.B
