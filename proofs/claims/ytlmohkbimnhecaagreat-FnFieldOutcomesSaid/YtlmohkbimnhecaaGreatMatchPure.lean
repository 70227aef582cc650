/-
  Orders and matchings: program and reference come to the same, whatever the list: the numbers ascending rise strictly from 0 to one below the number of points just where each is there once.
-/
import Derived.Test.YtlmohkbimnhecaaGreatField
import Derived.Test.YtlmohkbimnhecaaGreatOutMatching
import Derived.Test.YtlmohkbimnhecaaGreatBase
import Derived.Test.YtlmohkbimnhecaaGreatQ8
namespace Go.Proofs.YtlmohkbimnhecaaGreat.B
open Go.RowKit Go.Proofs.YtlmohkbimnhecaaGreat.Q Go.Proofs.YtlmohkbimnhecaaGreatW.PrintWords Go.Proofs.YtlmohkbimnhecaaGreatW.PrintLast Go.Proofs.YtlmohkbimnhecaaGreatW.PrintMore
def stepOk (lo hi:Int) (L:List Int) (i:Int):Bool:=decide (lo≤rd L i∧rd L i≤hi)&&(decide (i=0)||decide (rd L (i-1)<rd L i))
def risF (lo hi:Int) (L:List Int):Nat→Int→Bool
 |0,_=>true
 |d+1,i=>stepOk lo hi L i&&risF lo hi L d (i+1)
theorem risF_all (lo hi:Int) (L:List Int) (d:Nat):∀ i,risF lo hi L d i=true↔∀ j,i≤j→j<i+d→stepOk lo hi L j=true:=by
 induction d with
 |zero=>
  intro i
  refine ⟨fun _ j h0 h1=>?_,fun _=>rfl⟩
  omega
 |succ d ih=>
  intro i
  simp only [risF,Bool.and_eq_true,ih]
  constructor
  ·rintro ⟨h1,h2⟩ j h3 h4
   by_cases e:j=i
   ·rw [e];exact h1
   ·exact h2 j (by omega) (by omega)
  ·intro h
   exact ⟨h i (by omega) (by omega),fun j h1 h2=>h j (by omega) (by omega)⟩
theorem rising_loop (lo hi:Int) (L:List Int) (hm:L.length≤4611686018427387904) (d:Nat):∀ i:Int,0≤i→(L.length:Int)=i+d→Ev (fun k=>impl_isRising.l0 k L lo hi L (L.length:Int) i) (risF lo hi L d i):=by
 induction d with
 |zero=>
  intro i h0 h1
  refine evSucc (fun k=>by rw [impl_isRising.l0]) ?_
  exact evF (by omega) (evS _)
 |succ d ih=>
  intro i h0 h1
  refine evSucc (fun k=>by rw [impl_isRising.l0]) ?_
  refine evT (by omega) (evT h0 (evT (by omega) ?_))
  rw [within_eq]
  refine evG rfl ?_
  simp only [risF,stepOk]
  have hw:wrap64 (i+1)=i+1:=wrap_in (by omega) (by omega)
  have hx:=ih (i+1) (by omega) (by omega)
  rw [hw]
  by_cases c:lo≤rd L i∧rd L i≤hi
  ·refine evT (by simpa using c) ?_
   by_cases e:i>0
   ·have hv:wrap64 (i-1)=i-1:=wrap_in (by omega) (by omega)
    rw [hv]
    refine evT e (evT (by omega) (evT (by omega) ?_))
    by_cases g:rd L i≤rd L (i-1)
    ·refine evT g (evE ?_ (evS false))
     simp [show ¬ i=0 by omega,show ¬ rd L (i-1)<rd L i by omega]
    ·refine evF g (evE ?_ hx)
     simp [c,show rd L (i-1)<rd L i by omega]
   ·obtain rfl:i=0:=by omega
    refine evF e (evE ?_ hx)
    simp [c.1,c.2]
  ·refine evF (by simpa using c) (evE ?_ (evS false))
   simp [c]
theorem rd_at (l:List Int) (k:Int) (h0:0≤k) (h1:k<l.length):rd l k=l[k.toNat]'(by omega):=by
 unfold rd
 rw [List.getD_eq_getElem?_getD,List.getElem?_eq_getElem (by omega)]
 rfl
theorem rd_nat (l:List Int) (k:Nat) (h:k<l.length):rd l (k:Int)=l[k]:=by
 rw [rd_at l k (by omega) (by omega)]
 simp
def Good (hi:Int) (l:List Int):Prop:=l.Nodup∧∀ x∈l,0≤x∧x≤hi
theorem srt_perm (l:List Int):(srt l).Perm l:=List.mergeSort_perm l _
theorem srt_sorted (l:List Int):(srt l).Pairwise (fun a b=>a≤b):=by
 have:=List.pairwise_mergeSort (le:=fun x y:Int=>decide (x≤y)) (fun a b c h1 h2=>by simp only [decide_eq_true_eq] at *;omega) (fun a b=>by simp only [Bool.or_eq_true,decide_eq_true_eq];omega) l
 exact this.imp (fun h=>of_decide_eq_true h)
theorem ris_good (hi:Int) (l:List Int):risF 0 hi (srt l) (srt l).length 0=true↔Good hi l:=by
 have hp:=srt_perm l
 have hs:=srt_sorted l
 generalize srt l=s at hp hs
 rw [risF_all]
 constructor
 ·intro h
  have hall:∀ j:Nat,(hj:j<s.length)→(0≤s[j]∧s[j]≤hi)∧(j=0∨rd s ((j:Int)-1)<s[j]):=by
   intro j hj
   have h1:=h (j:Int) (by omega) (by omega)
   unfold stepOk at h1
   simp only [Bool.and_eq_true,Bool.or_eq_true,decide_eq_true_eq] at h1
   rw [rd_nat s j hj] at h1
   exact ⟨h1.1,h1.2.imp (fun e=>by omega) id⟩
  refine ⟨hp.nodup_iff.1 ?_,fun x hx=>?_⟩
  ·rw [List.nodup_iff_pairwise_ne,List.pairwise_iff_getElem]
   intro i j hi' hj hij e
   have h1:=(hall j hj).2
   rcases h1 with h1|h1
   ·omega
   ·have e2:((j:Int)-1)=((j-1:Nat):Int):=by omega
    rw [e2,rd_nat s (j-1) (by omega)] at h1
    by_cases c:i=j-1
    ·subst c;omega
    ·have:=List.pairwise_iff_getElem.1 hs i (j-1) hi' (by omega) (by omega)
     omega
  ·obtain ⟨j,hj,rfl⟩:=List.getElem_of_mem (hp.mem_iff.2 hx)
   exact (hall j hj).1
 ·rintro ⟨hn,hr⟩ j h0 h1
  have hj:j.toNat<s.length:=by omega
  have e:rd s j=s[j.toNat]:=rd_at s j h0 (by omega)
  have hm:=hr (s[j.toNat]) (hp.mem_iff.1 (List.getElem_mem hj))
  unfold stepOk
  simp only [Bool.and_eq_true,Bool.or_eq_true,decide_eq_true_eq]
  rw [e]
  refine ⟨hm,?_⟩
  by_cases c:j=0
  ·exact Or.inl c
  ·right
   rw [rd_at s (j-1) (by omega) (by omega)]
   have h3:=List.pairwise_iff_getElem.1 hs (j-1).toNat j.toNat (by omega) hj (by omega)
   have hn':=hp.nodup_iff.2 hn
   have h4:=List.pairwise_iff_getElem.1 (List.nodup_iff_pairwise_ne.1 hn') (j-1).toNat j.toNat (by omega) hj (by omega)
   omega
theorem listF_ev (P:Int) (l:List Int) (hl:l.length≤1048576):Ev (fun k=>listF k P l) (decide ((l.length:Int)=P)&&risF 0 (wrap64 (P-1)) (srt l) (srt l).length 0):=by
 have hln:(srt l).length=l.length:=(srt_perm l).length_eq
 unfold listF
 by_cases c:(l.length:Int)=P
 ·rw [decide_eq_true c,Bool.true_and]
  refine evT c ?_
  unfold impl_isRising.f
  exact rising_loop 0 (wrap64 (P-1)) (srt l) (by omega) (srt l).length 0 (by omega) (by omega)
 ·rw [decide_eq_false c,Bool.false_and]
  exact evF c (evS _)
theorem rdB_set (m:List Bool) (a x:Int) (h0:0≤a) (h1:a<m.length) (h2:0≤x):rdOf false (m.set a.toNat true) x=if x=a then true else rdOf false m x:=by
 unfold rdOf
 rw [List.getD_eq_getElem?_getD,List.getD_eq_getElem?_getD]
 by_cases e:x=a
 ·subst e
  rw [if_pos rfl,List.getElem?_set_self (by omega)]
  rfl
 ·rw [if_neg e,List.getElem?_set_ne (by omega)]
theorem order_loop (P:Int) (hP:1≤P∧P≤8) (l:List Int) (hl:l.length≤1048576) (d:Nat):∀ (i:Nat) (m:List Bool),i+d=l.length→(m.length:Int)=P→(∀ x:Int,0≤x→x<P→(rdOf false m x=true↔x∈l.take i))→Good (P-1) (l.take i) →
 ∃ b,Ev (fun k=>spec_l05Order.l0 k l P m (i:Int)) b∧(b=true↔Good (P-1) l∧(l.length:Int)=P):=by
 induction d with
 |zero=>
  intro i m hi hml hm hg
  rw [List.take_of_length_le (by omega)] at hg
  refine ⟨((l.length:Int)==P),evSucc (fun k=>by rw [spec_l05Order.l0]) (evF (by omega) (evS _)),?_⟩
  rw [beq_iff_eq]
  exact ⟨fun h=>⟨hg,h⟩,fun h=>h.2⟩
 |succ d ih=>
  intro i m hi hml hm hg
  have hlt:i<l.length:=by omega
  have e:=rd_nat l i hlt
  have hw:wrap64 (P-1)=P-1:=wrap_in (by omega) (by omega)
  have hw2:wrap64 ((i:Int)+1)=((i+1:Nat):Int):=by rw [wrap_in (by omega) (by omega)];omega
  have htk:l.take (i+1)=l.take i++[l[i]]:=by rw [List.take_add_one,List.getElem?_eq_getElem hlt];rfl
  have hsub:(l.take (i+1)).Sublist l:=List.take_sublist _ _
  by_cases c:0≤l[i]∧l[i]≤P-1
  rotate_left
  ·refine ⟨false,evSucc (fun k=>by rw [spec_l05Order.l0,hw]) ?_,?_⟩
   ·rw [e]
    exact evT (by omega) (evT (by omega) (evG (l01In_eq _ _ _) (evF (by rw [decide_eq_false c];decide) (evS _))))
   ·refine ⟨(fun h=>by cases h),fun h=>absurd (h.1.2 _ (List.getElem_mem hlt)) c⟩
  cases hb:rdOf false m (l[i]) with
  |true=>
   refine ⟨false,evSucc (fun k=>by rw [spec_l05Order.l0,hw]) ?_,?_⟩
   ·rw [e]
    exact evT (by omega) (evT (by omega) (evG (l01In_eq _ _ _) (evT (decide_eq_true c) (evT c.1 (evT (by omega) (evT hb (evS _)))))))
   ·refine ⟨(fun h=>by cases h),fun h=>?_⟩
    have h2:=(hm (l[i]) c.1 (by omega)).1 hb
    have h3:=h.1.1.sublist hsub
    rw [htk,List.nodup_append] at h3
    exact absurd rfl (h3.2.2 _ h2 _ (List.mem_singleton.2 rfl))
  |false=>
   have hno:l[i] ∉ l.take i:=fun h2=>by
    have:=(hm (l[i]) c.1 (by omega)).2 h2
    rw [hb] at this
    cases this
   have hg2:Good (P-1) (l.take (i+1)):=by
    rw [htk]
    refine ⟨List.nodup_append.2 ⟨hg.1,by simp,fun a ha b hb2 e2=>?_⟩,fun x hx=>?_⟩
    ·rw [List.mem_singleton.1 hb2] at e2
     exact hno (e2▸ha)
    ·rcases List.mem_append.1 hx with hx|hx
     ·exact hg.2 x hx
     ·rw [List.mem_singleton.1 hx];exact c
   obtain ⟨b,h1,h2⟩:=ih (i+1) (m.set (l[i]).toNat true) (by omega) (by rw [List.length_set];exact hml) (fun x h0 h1=>by
    rw [rdB_set m (l[i]) x c.1 (by omega) h0,htk,List.mem_append,List.mem_singleton]
    by_cases ex:x=l[i]
    ·rw [if_pos ex];exact ⟨fun _=>Or.inr ex,fun _=>rfl⟩
    ·rw [if_neg ex,hm x h0 h1]
     exact ⟨Or.inl,fun h=>h.resolve_right ex⟩) hg2
   refine ⟨b,evSucc (fun k=>by rw [spec_l05Order.l0,hw,hw2]) ?_,h2⟩
   rw [e]
   exact evT (by omega) (evT (by omega) (evG (l01In_eq _ _ _) (evT (decide_eq_true c) (evT c.1 (evT (by omega) (evF (by rw [hb];decide) h1))))))
theorem order_ev (P:Int) (hP:1≤P∧P≤8) (l:List Int) (hl:l.length≤1048576):∃ b,Ev (fun k=>spec_l05Order.f k l P) b∧(b=true↔Good (P-1) l∧(l.length:Int)=P):=by
 obtain ⟨b,h1,h2⟩:=order_loop P hP l hl l.length 0 (List.replicate P.toNat false) (by omega) (by simp;omega) (fun x h0 h1=>by
  unfold rdOf
  rw [List.getD_eq_getElem?_getD,List.getElem?_replicate]
  split<;>simp) ⟨by simp,by simp⟩
 refine ⟨b,?_,h2⟩
 unfold spec_l05Order.f
 exact evT (by omega) (evT (by omega) (by simpa using h1))
section
variable {P L R B:Int} {l:List Int}
theorem match_inner (hP:1≤P∧P≤8) (hl:(l.length:Int)=P) (hg:Good (P-1) l) (i:Int) (hi:0≤i∧i<P) (hnext:∃ b,Ev (fun k=>spec_l05Matches.l0 k l (wrap64 (i+1)) P L R B) b∧Ev (fun k=>impl_Field_isMatching.l0 k l P (wrap64 (i+1)) P L R B) b) (d:Nat):
 ∀ j:Int,0≤j→j+d=i→∃ b,Ev (fun k=>spec_l05Matches.l1 k l i j P L R B) b∧Ev (fun k=>impl_Field_isMatching.l1 k l i P i i j P L R B) b:=by
 have hr:∀ x:Int,0≤x→x<P→0≤rd l x∧rd l x≤P-1:=fun x h0 h1=>by
  rw [rd_at l x h0 (by omega)]
  exact hg.2 _ (List.getElem_mem _)
 have hri:=hr i hi.1 hi.2
 induction d with
 |zero=>
  intro j h0 hj
  obtain ⟨b,h1,h2⟩:=hnext
  refine ⟨b,evSucc (fun k=>by rw [spec_l05Matches.l1]) (evF (by omega) h1),evSucc (fun k=>by rw [impl_Field_isMatching.l1]) (evF (by omega) h2)⟩
 |succ d ih=>
  intro j h0 hj
  have hrj:=hr j h0 (by omega)
  have hne:rd l i≠rd l j:=by
   rw [rd_at l i hi.1 (by omega),rd_at l j h0 (by omega)]
   have:=List.pairwise_iff_getElem.1 (List.nodup_iff_pairwise_ne.1 hg.1) j.toNat i.toNat (by omega) (by omega) (by omega)
   exact fun e=>this e.symm
  have s1:=joins_spec P L R B i j (by omega) (by omega)
  have s2:=joins_spec P L R B (rd l i) (rd l j) (by omega) (by omega)
  have t1:=joins_impl P L R B i j (by omega) (by omega) (by omega)
  have t2:=joins_impl P L R B (rd l i) (rd l j) (by omega) (by omega) hne
  have hw:wrap64 (j+1)=j+1:=wrap_in (by omega) (by omega)
  by_cases c:(jn L i j !=jn L (rd l i) (rd l j))=true
  ·refine ⟨false,evSucc (fun k=>by rw [spec_l05Matches.l1]) ?_,evSucc (fun k=>by rw [impl_Field_isMatching.l1]) ?_⟩
   ·exact evT (by omega) (evT h0 (evT (by omega) (evT hrj.1 (evG s1 (evT hi.1 (evT (by omega) (evG s2 (evT c (evS _)))))))))
   ·exact evT (by omega) (evG t1 (evT hi.1 (evT (by omega) (evT h0 (evT (by omega) (evG t2 (evT c (evS _))))))))
  ·obtain ⟨b,h1,h2⟩:=ih (j+1) (by omega) (by omega)
   refine ⟨b,evSucc (fun k=>by rw [spec_l05Matches.l1,hw]) ?_,evSucc (fun k=>by rw [impl_Field_isMatching.l1,hw]) ?_⟩
   ·exact evT (by omega) (evT h0 (evT (by omega) (evT hrj.1 (evG s1 (evT hi.1 (evT (by omega) (evG s2 (evF c h1))))))))
   ·exact evT (by omega) (evG t1 (evT hi.1 (evT (by omega) (evT h0 (evT (by omega) (evG t2 (evF c h2)))))))
theorem match_outer (hP:1≤P∧P≤8) (hl:(l.length:Int)=P) (hg:Good (P-1) l) (d:Nat):
 ∀ i:Int,0≤i→i+d=P→∃ b,Ev (fun k=>spec_l05Matches.l0 k l i P L R B) b∧Ev (fun k=>impl_Field_isMatching.l0 k l P i P L R B) b:=by
 have hr:∀ x:Int,0≤x→x<P→0≤rd l x∧rd l x≤P-1:=fun x h0 h1=>by
  rw [rd_at l x h0 (by omega)]
  exact hg.2 _ (List.getElem_mem _)
 induction d with
 |zero=>
  intro i h0 hi
  exact ⟨true,evSucc (fun k=>by rw [spec_l05Matches.l0]) (evF (by omega) (evS _)),evSucc (fun k=>by rw [impl_Field_isMatching.l0]) (evF (by omega) (evS _))⟩
 |succ d ih=>
  intro i h0 hi
  have hri:=hr i h0 (by omega)
  have hw:wrap64 (i+1)=i+1:=wrap_in (by omega) (by omega)
  have hnext:=ih (i+1) (by omega) (by omega)
  rw [← hw] at hnext
  have hin:=match_inner (R:=R) (B:=B) hP hl hg i ⟨h0,by omega⟩ hnext i.toNat 0 (by omega) (by omega)
  have j1:∀ c:Bool,∃ b,Ev (fun k=>spec_l05Matches.j1 k l i c P L R B) b∧Ev (fun k=>impl_Field_isMatching.j1 k l i P i c P L R B) b:=by
   intro c
   cases c with
   |true=>exact ⟨false,evSucc (fun k=>by rw [spec_l05Matches.j1]) (evT rfl (evS _)),evSucc (fun k=>by rw [impl_Field_isMatching.j1]) (evT rfl (evS _))⟩
   |false=>
    obtain ⟨b,h1,h2⟩:=hin
    exact ⟨b,evSucc (fun k=>by rw [spec_l05Matches.j1]) (evF (by decide) h1),evSucc (fun k=>by rw [impl_Field_isMatching.j1]) (evF (by decide) h2)⟩
  by_cases c:rd l i=i
  ·obtain ⟨b,h1,h2⟩:=j1 true
   refine ⟨b,evSucc (fun k=>by rw [spec_l05Matches.l0]) ?_,evSucc (fun k=>by rw [impl_Field_isMatching.l0]) ?_⟩
   ·exact evT (by omega) (evT h0 (evT (by omega) (evF (by omega) (evT c h1))))
   ·exact evT (by omega) (evT h0 (evT (by omega) (evT c h2)))
  ·obtain ⟨b,h1,h2⟩:=j1 (rd l (rd l i)!=i)
   refine ⟨b,evSucc (fun k=>by rw [spec_l05Matches.l0]) ?_,evSucc (fun k=>by rw [impl_Field_isMatching.l0]) ?_⟩
   ·exact evT (by omega) (evT h0 (evT (by omega) (evF (by omega) (evF c (evT hri.1 (evT (by omega) h1))))))
   ·exact evT (by omega) (evT h0 (evT (by omega) (evF c (evT hri.1 (evT (by omega) h2)))))
end
end Go.Proofs.YtlmohkbimnhecaaGreat.B
