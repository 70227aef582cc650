/-
  Fields, plainly: exchanged sides exchange who wins; plays end as told; who does not begin wins fields with kept matchings; fields without lines; least and greatest numbers of moves. Fields alone, as the facts ask.
-/
import Derived.Test.YtlmohkbimnhecaaGreatField
set_option linter.unusedVariables false
set_option linter.unusedSectionVars false
namespace Go.Proofs.YtlmohkbimnhecaaGreat.B
open Go.RowKit Go.Proofs.YtlmohkbimnhecaaGreat.Q Go.Proofs.YtlmohkbimnhecaaGreatW.PrintWords Go.Proofs.YtlmohkbimnhecaaGreatW.PrintLast Go.Proofs.YtlmohkbimnhecaaGreatW.PrintMore
theorem col_swap0 (R B i:Int):(col B R i==0)=(col R B i==0):=by
 unfold col
 rcases and_one (shr .i64 R i) with e|e<;>rcases and_one (shr .i64 B i) with g|g<;>simp only [e,g] <;> decide +kernel
theorem col_swapE (R B i j:Int):(col B R i==col B R j)=(col R B i==col R B j):=by
 unfold col
 rcases and_one (shr .i64 R i) with e|e<;>rcases and_one (shr .i64 B i) with g|g<;>rcases and_one (shr .i64 R j) with e2|e2<;>rcases and_one (shr .i64 B j) with g2|g2<;>simp only [e,g,e2,g2] <;> decide +kernel
theorem badP_swap (L R B g i j:Int):badP L B R g i j=badP L R B g i j:=by
 unfold badP
 rw [col_swap0 R B i,col_swap0 R B j,col_swapE R B i j]
theorem fairIn_swap (L R B g j:Int) (d:Nat):∀ i,fairIn L B R g j d i=fairIn L R B g j d i:=by
 induction d with
 |zero=>intro i;rfl
 |succ d ih=>
  intro i
  simp only [fairIn]
  rw [badP_swap,ih]
theorem fairOut_swap (L R B g:Int) (d:Nat):∀ j,fairOut L B R g d j=fairOut L R B g d j:=by
 induction d with
 |zero=>intro j;rfl
 |succ d ih=>
  intro j
  simp only [fairOut]
  rw [fairIn_swap,ih]
theorem fairB_swap (P L R B g:Int):fairB P L B R g=fairB P L R B g:=fairOut_swap L R B g _ _
theorem mv_swap (x p i:Int) (hp:p=0∨p=1):mvR x (1-p) i=mvB x p i∧mvB x (1-p) i=mvR x p i:=by
 rcases hp with rfl|rfl<;>exact ⟨rfl,rfl⟩
theorem mvN_swap (x:Nat) (p i:Int) (hp:p=0∨p=1):mvA (1-p) x i=mvC p x i∧mvC (1-p) x i=mvA p x i:=by
 rcases hp with rfl|rfl<;>exact ⟨rfl,rfl⟩
theorem pts_swap (P L R B g p:Int) (hp:p=0∨p=1):ptsL P L B R g (1-p)=ptsL P L R B g p:=by
 unfold ptsL
 refine List.filter_congr (fun i _=>?_)
 unfold okP
 rw [col_swap0,(mv_swap B p i hp).1,(mv_swap R p i hp).2,fairB_swap]
theorem Two.swap {n a b:Nat} (h:Two n a b):Two n b a:=⟨h.2.1,h.1,fun i=>(dg_three b a i).2 (fun c=>(dg_three a b i).1 (h.2.2 i) ⟨c.2,c.1⟩)⟩
section
variable {P L g:Int} (hP:1≤P∧P≤8)
include hP
theorem W_swap (m:Nat):∀ (a b:Nat) (p:Int),(p=0∨p=1)→Two P.toNat a b→fr a b P.toNat<m→W P L g b a (1-p)=W P L g a b p:=by
 induction m with
 |zero=>intro a b p _ _ h;omega
 |succ m ih=>
  intro a b p hp h hm
  rw [W_eq P L g _ b a hP h.swap,W_eq P L g _ a b hP h,pts_swap P L a b g p hp]
  refine any_congr (fun i hi=>?_)
  obtain ⟨_,_,h2,h3⟩:=ptsL_free P L g p a b hP h i hi
  obtain ⟨h4,h5⟩:=h.move p i h2 h3
  rw [(mvN_swap b p i hp).1,(mvN_swap a p i hp).2,ih _ _ (1-p) (by omega) h4 (by omega)]
theorem best_wins (a b:Nat) (p:Int) (h:Two P.toNat a b):W P L g a b p=decide ((bestL P L g a b p).length>0):=by
 rw [W_eq P L g p a b hP h]
 unfold bestL
 induction ptsL P L a b g p with
 |nil=>rfl
 |cons x l ih=>
  rw [List.any_cons,ih,List.filter_cons]
  cases W P L g (mvA p a x) (mvC p b x) (1-p)<;>simp
theorem play_odd (d:Nat):∀ (a b:Nat) (p:Int),(p=0∨p=1)→Two P.toNat a b→fr a b P.toNat<d→((playM P L g d a b p).length%2=1↔W P L g a b p=true):=by
 induction d with
 |zero=>intro a b p _ _ h;omega
 |succ d ih=>
  intro a b p hp h hm
  have hW:=best_wins (L:=L) (g:=g) hP a b p h
  cases e:bestL P L g a b p++ptsL P L a b g p with
  |nil=>
   rw [playM_nil d e]
   obtain ⟨e1,_⟩:=List.append_eq_nil_iff.1 e
   rw [e1] at hW
   simp [hW]
  |cons x q=>
   rw [playM_cons d e,List.length_cons]
   obtain ⟨h0,h1,h2,h3⟩:=head_free hP a b p h x q e
   obtain ⟨h4,h5⟩:=h.move p x h2 h3
   have i1:=ih (mvA p a x) (mvC p b x) (1-p) (by omega) h4 (by omega)
   cases eb:bestL P L g a b p with
   |nil=>
    rw [eb,List.nil_append] at e
    rw [eb] at hW
    have hx:x∈ptsL P L a b g p:=by rw [e];exact List.mem_cons_self
    have hw:W P L g (mvA p a x) (mvC p b x) (1-p)=true:=by
     cases c:W P L g (mvA p a x) (mvC p b x) (1-p) with
     |true=>rfl
     |false=>
      have:x∈bestL P L g a b p:=List.mem_filter.2 ⟨hx,by simp [c]⟩
      rw [eb] at this
      cases this
    have i2:=i1.2 hw
    rw [hW]
    simp only [List.length_nil,gt_iff_lt,Nat.lt_irrefl,decide_false,Bool.false_eq_true,iff_false]
    omega
   |cons y r=>
    rw [eb] at e hW
    obtain rfl:y=x:=by injection e
    have hm2:y∈bestL P L g a b p:=by rw [eb];exact List.mem_cons_self
    have hw:=(List.mem_filter.1 hm2).2
    have hw2:W P L g (mvA p a y) (mvC p b y) (1-p)=false:=by simpa using hw
    rw [hw2] at i1
    rw [hW]
    simp only [List.length_cons,gt_iff_lt,Nat.zero_lt_succ,decide_true,iff_true]
    have:¬ (playM P L g d (mvA p a y) (mvC p b y) (1-p)).length%2=1:=fun z=>by
     have:=i1.1 z
     cases this
    omega
theorem leftP_le {f:Int→Int×Int} (l:List Int):(∀ x∈l,(f x).1≤(f x).2)→∀ (b:Bool) (lo hi:Int),lo≤hi→(leftP f l b lo hi).1≤(leftP f l b lo hi).2:=by
 induction l with
 |nil=>intro h b lo hi h1;exact h1
 |cons x l ih=>
  intro h b lo hi h1
  have hx:=h x List.mem_cons_self
  simp only [leftP]
  refine ih (fun y hy=>h y (List.mem_cons_of_mem _ hy)) _ _ _ ?_
  unfold mx
  split<;>split<;>(try split)<;>omega
theorem lf_le (m:Nat):∀ (a b:Nat) (p:Int),Two P.toNat a b→fr a b P.toNat<m→(lf P L g a b p).1≤(lf P L g a b p).2:=by
 induction m with
 |zero=>intro a b p _ h;omega
 |succ m ih=>
  intro a b p h hm
  rw [lf_eq hP a b p h]
  refine leftP_le hP _ (fun i hi=>?_) _ _ _ (Int.le_refl _)
  obtain ⟨_,_,h2,h3⟩:=ptsL_free P L g p a b hP h i hi
  obtain ⟨h4,h5⟩:=h.move p i h2 h3
  exact ih _ _ _ h4 (by omega)
end
theorem jn_none (i j:Int):jn 0 i j=false:=by
 unfold jn shr
 rw [Int.zero_ediv]
 decide +kernel
theorem fair_none (P R B g:Int):fairB P 0 R B g=true:=by
 have hin:∀ (d:Nat) (j i:Int),fairIn 0 R B g j d i=true:=by
  intro d
  induction d with
  |zero=>intro j i;rfl
  |succ d ih=>
   intro j i
   simp only [fairIn]
   rw [show badP 0 R B g i j=false by unfold badP;rw [jn_none,Bool.false_and],if_neg (by decide),ih]
 have hout:∀ (d:Nat) (j:Int),fairOut 0 R B g d j=true:=by
  intro d
  induction d with
  |zero=>intro j;rfl
  |succ d ih=>
   intro j
   simp only [fairOut]
   rw [hin,if_pos rfl,ih]
 exact hout _ _
theorem fr_zero (a b:Nat):∀ n:Nat,(∀ i,i<n→dg a b i≠0)→fr a b n=0
 |0,_=>rfl
 |n+1,h=>by
  unfold fr
  rw [fr_zero a b n (fun i hi=>h i (by omega)),if_neg (h n (by omega))]
theorem W_none {P g:Int} (hP:1≤P∧P≤8) (m:Nat):∀ (a b:Nat) (p:Int),Two P.toNat a b→fr a b P.toNat<m→W P 0 g a b p=decide (fr a b P.toNat%2=1):=by
 induction m with
 |zero=>intro a b p _ h;omega
 |succ m ih=>
  intro a b p h hm
  rw [W_eq P 0 g p a b hP h]
  by_cases c:ptsL P 0 a b g p=[]
  ·rw [c]
   have hz:fr a b P.toNat=0:=by
    refine fr_zero a b _ (fun i hi hd=>?_)
    have hs:=h.small (by omega)
    have:(i:Int)∈ptsL P 0 a b g p:=by
     unfold ptsL
     refine List.mem_filter.2 ⟨(mem_seg _ _ _).2 ⟨by omega,by omega⟩,?_⟩
     unfold okP
     rw [fair_none,col_dg a b (i:Int) hs.1 hs.2 (by omega) (by omega),Int.toNat_natCast,hd]
     rfl
    rw [c] at this
    cases this
   rw [hz]
   rfl
  ·obtain ⟨x,l,e⟩:=List.exists_cons_of_ne_nil c
   have key:∀ i∈ptsL P 0 a b g p,(!W P 0 g (mvA p a i) (mvC p b i) (1-p))=decide (fr a b P.toNat%2=1):=by
    intro i hi
    obtain ⟨_,_,h2,h3⟩:=ptsL_free P 0 g p a b hP h i hi
    obtain ⟨h4,h5⟩:=h.move p i h2 h3
    rw [ih _ _ (1-p) h4 (by omega)]
    have:fr a b P.toNat%2=1↔¬ fr (mvA p a i) (mvC p b i) P.toNat%2=1:=by omega
    by_cases q:fr (mvA p a i) (mvC p b i) P.toNat%2=1
    ·rw [decide_eq_true q,decide_eq_false (fun z=>this.1 z q)]
     rfl
    ·rw [decide_eq_false q,decide_eq_true (this.2 q)]
     rfl
   have hx:=key x (by rw [e];exact List.mem_cons_self)
   rw [any_congr key,e]
   cases decide (fr a b P.toNat%2=1)<;>simp
theorem two_zero (n:Nat):Two n 0 0:=⟨Nat.two_pow_pos n,Nat.two_pow_pos n,fun i=>by simp [dg]⟩
theorem fr_full:∀ n:Nat,fr 0 0 n=n
 |0=>rfl
 |n+1=>by
  unfold fr
  rw [fr_full n,if_pos (by simp [dg])]
theorem fairIn_iff (L R B g j:Int) (d:Nat):∀ i,fairIn L R B g j d i=true↔∀ x,i≤x→x<i+d→badP L R B g x j=false:=by
 induction d with
 |zero=>intro i;simp only [fairIn,true_iff];intro x h1 h2;omega
 |succ d ih=>
  intro i
  simp only [fairIn]
  cases c:badP L R B g i j with
  |true=>
   simp only [if_true,Bool.false_eq_true,false_iff]
   intro h
   have:=h i (Int.le_refl _) (by omega)
   rw [c] at this
   cases this
  |false=>
   rw [if_neg (by decide),ih]
   constructor
   ·intro h x h1 h2
    by_cases e:x=i
    ·rw [e];exact c
    ·exact h x (by omega) (by omega)
   ·intro h x h1 h2
    exact h x (by omega) (by omega)
theorem fairOut_iff (L R B g:Int) (d:Nat):∀ j,0≤j→(fairOut L R B g d j=true↔∀ y,j≤y→y<j+d→∀ x,0≤x→x<y→badP L R B g x y=false):=by
 induction d with
 |zero=>intro j _;simp only [fairOut,true_iff];intro y h1 h2;omega
 |succ d ih=>
  intro j hj
  simp only [fairOut]
  have hi:=fairIn_iff L R B g j j.toNat 0
  cases c:fairIn L R B g j j.toNat 0 with
  |true=>
   rw [c] at hi
   have hi:=hi.1 rfl
   rw [if_pos rfl,ih (j+1) (by omega)]
   constructor
   ·intro h y h1 h2 x h3 h4
    by_cases e:y=j
    ·subst e
     exact hi x h3 (by omega)
    ·exact h y (by omega) (by omega) x h3 h4
   ·intro h y h1 h2 x h3 h4
    exact h y (by omega) (by omega) x h3 h4
  |false=>
   rw [c] at hi
   rw [if_neg (by decide)]
   simp only [Bool.false_eq_true,false_iff]
   intro h
   have:=hi.2 (fun x h1 h2=>h j (Int.le_refl _) (by omega) x h1 (by omega))
   cases this
theorem fairB_iff (P L R B g:Int):fairB P L R B g=true↔∀ y:Int,0≤y→y<(P.toNat:Int)→∀ x:Int,0≤x→x<y→badP L R B g x y=false:=by
 unfold fairB
 rw [fairOut_iff L R B g P.toNat 0 (Int.le_refl _)]
 simp only [Int.zero_add]
theorem jn_sym (L i j:Int):jn L i j=jn L j i:=by
 unfold jn mx mn
 by_cases c:i<j
 ·have:¬ j<i:=by omega
  simp [c,this]
 ·by_cases c2:j<i
  ·simp [c,c2]
  ·obtain rfl:i=j:=by omega
   rfl
structure Kept2 (P L:Int) (z:List Int):Prop where
 inv:∀ x:Int,0≤x→x<P→(0≤rd z x∧rd z x<P)∧rd z x≠x∧rd z (rd z x)=x
 apart:∀ x:Int,0≤x→x<P→jn L x (rd z x)=false
 same:∀ x y:Int,0≤x→x<P→0≤y→y<P→x≠y→jn L x y=jn L (rd z x) (rd z y)
def Mir (P:Int) (a b:Nat) (z:List Int):Prop:=∀ x:Int,0≤x→x<P→colOk a b x (rd z x)=true
theorem colOk_cases {a b:Nat} {i j:Int} (h:colOk a b i j=true):(dg a b i.toNat=0∧dg a b j.toNat=0)∨(dg a b i.toNat=1∧dg a b j.toNat=2)∨(dg a b i.toNat=2∧dg a b j.toNat=1):=by
 unfold colOk at h
 simp only [Bool.or_eq_true,Bool.and_eq_true,beq_iff_eq] at h
 rcases h with (h|h)|h
 ·exact .inl h
 ·exact .inr (.inl h)
 ·exact .inr (.inr h)
theorem colOk_of {a b:Nat} {i j:Int} (h:(dg a b i.toNat=0∧dg a b j.toNat=0)∨(dg a b i.toNat=1∧dg a b j.toNat=2)∨(dg a b i.toNat=2∧dg a b j.toNat=1)):colOk a b i j=true:=by
 unfold colOk
 rcases h with ⟨h1,h2⟩|⟨h1,h2⟩|⟨h1,h2⟩<;>rw [h1,h2] <;> rfl
theorem dg_move (a b:Nat) (p i:Int) (x:Nat) (h:dg a b i.toNat=0):dg (mvA p a i) (mvC p b i) x=if x=i.toNat then (if p=0 then 1 else 2) else dg a b x:=by
 unfold mvA mvC
 by_cases c:p=0
 ·rw [if_pos c,if_pos c,if_pos c,dg_left a b i.toNat x h]
 ·rw [if_neg c,if_neg c,if_neg c,dg_right a b i.toNat x h]
def bd (L g:Int) (x y:Int) (u v:Nat):Bool:=jn L x y&&(!(u==0)&&(!(v==0)&&((u==v)==(g==0))))
theorem bd_sym (L g x y:Int) (u v:Nat):bd L g x y u v=bd L g y x v u:=by
 unfold bd
 rw [jn_sym L x y]
 by_cases c:u=v
 ·subst c;rfl
 ·have c2:¬ v=u:=fun e=>c e.symm
  rw [beq_eq_false_iff_ne.2 c,beq_eq_false_iff_ne.2 c2]
  cases jn L y x<;>cases (u==0)<;>cases (v==0)<;>rfl
theorem nat_beq (u v:Nat):(((u:Int)==(v:Int)):Bool)=(u==v):=by
 by_cases c:u=v
 ·subst c;simp
 ·rw [beq_eq_false_iff_ne.2 c,beq_eq_false_iff_ne.2 (fun e=>c (by omega))]
theorem badP_bd (L g:Int) {n a b:Nat} (h:Two n a b) (hn:n≤8) (x y:Int) (hx:0≤x∧x≤60) (hy:0≤y∧y≤60):badP L a b g x y=bd L g x y (dg a b x.toNat) (dg a b y.toNat):=by
 have hs:=h.small (by omega)
 unfold badP bd
 rw [col_dg a b x hs.1 hs.2 hx.1 hx.2,col_dg a b y hs.1 hs.2 hy.1 hy.2,show (0:Int)=((0:Nat):Int) from rfl,nat_beq,nat_beq,nat_beq]
theorem fair_bd {P:Int} (hP:1≤P∧P≤8) (L g:Int) {a b:Nat} (h:Two P.toNat a b):fairB P L a b g=true↔∀ x y:Int,0≤x→x<P→0≤y→y<P→x≠y→bd L g x y (dg a b x.toNat) (dg a b y.toNat)=false:=by
 rw [fairB_iff]
 constructor
 ·intro hf x y x0 x1 y0 y1 hne
  by_cases c:x<y
  ·have:=hf y y0 (by omega) x x0 c
   rwa [badP_bd L g h (by omega) x y (by omega) (by omega)] at this
  ·have:=hf x x0 (by omega) y y0 (by omega)
   rw [badP_bd L g h (by omega) y x (by omega) (by omega)] at this
   rw [bd_sym]
   exact this
 ·intro hf y y0 y1 x x0 x1
  rw [badP_bd L g h (by omega) x y (by omega) (by omega)]
  exact hf x y x0 (by omega) y0 (by omega) (by omega)
section
variable {P L g:Int} (hP:1≤P∧P≤8) {z:List Int} (K:Kept2 P L z)
include hP K
theorem mirror_fair {a b:Nat} (h:Two P.toNat a b) (hM:Mir P a b z) (p i:Int) (hp:p=0∨p=1) (i0:0≤i) (i1:i<P) (hd:dg a b i.toNat=0) (d1 d2:Nat→Nat) (c c':Nat)
 (e1:∀ x,d1 x=if x=i.toNat then c else dg a b x) (e2:∀ x,d2 x=if x=(rd z i).toNat then c' else d1 x) (hc:(c=1∧c'=2)∨(c=2∧c'=1))
 (hf:∀ x y:Int,0≤x→x<P→0≤y→y<P→x≠y→bd L g x y (d1 x.toNat) (d1 y.toNat)=false):
 ∀ x y:Int,0≤x→x<P→0≤y→y<P→x≠y→bd L g x y (d2 x.toNat) (d2 y.toNat)=false:=by
 obtain ⟨⟨j0,j1⟩,jn1,jj⟩:=K.inv i i0 i1
 have key:∀ y:Int,0≤y→y<P→rd z i≠y→bd L g (rd z i) y (d2 (rd z i).toNat) (d2 y.toNat)=false:=by
  intro y y0 y1 hne
  by_cases cy:y=i
  ·subst cy
   unfold bd
   rw [jn_sym,K.apart y y0 y1,Bool.false_and]
  ·obtain ⟨⟨q0,q1⟩,qn,qq⟩:=K.inv y y0 y1
   have hzi:rd z y≠i:=fun e=>hne (by rw [← e,qq])
   have hb:=hf i (rd z y) i0 i1 q0 q1 (fun e=>hzi e.symm)
   have hj:=K.same (rd z i) y j0 j1 y0 y1 hne
   rw [jj] at hj
   have d2y:d2 y.toNat=dg a b y.toNat:=by rw [e2,if_neg (by omega),e1,if_neg (by omega)]
   have d2j:d2 (rd z i).toNat=c':=by rw [e2,if_pos rfl]
   have d1z:d1 (rd z y).toNat=dg a b (rd z y).toNat:=by rw [e1,if_neg (by omega)]
   have d1i:d1 i.toNat=c:=by rw [e1,if_pos rfl]
   rw [d1z,d1i] at hb
   rw [d2y,d2j]
   unfold bd at hb ⊢
   rw [hj]
   rcases colOk_cases (hM y y0 y1) with ⟨k1,k2⟩|⟨k1,k2⟩|⟨k1,k2⟩<;>rcases hc with ⟨rfl,rfl⟩|⟨rfl,rfl⟩<;>rw [k2] at hb<;>rw [k1] <;> exact hb
 intro x y x0 x1 y0 y1 hne
 by_cases cx:x=rd z i
 ·subst cx
  exact key y y0 y1 hne
 ·by_cases cy:y=rd z i
  ·subst cy
   rw [bd_sym]
   exact key x x0 x1 (fun e=>hne e.symm)
  ·have q1:d2 x.toNat=d1 x.toNat:=by rw [e2,if_neg (by omega)]
   have q2:d2 y.toNat=d1 y.toNat:=by rw [e2,if_neg (by omega)]
   rw [q1,q2]
   exact hf x y x0 x1 y0 y1 hne
theorem mirror_lost (m:Nat):∀ (a b:Nat) (p:Int),(p=0∨p=1)→Two P.toNat a b→Mir P a b z→fr a b P.toNat<m→W P L g a b p=false:=by
 induction m with
 |zero=>intro a b p _ _ _ h;omega
 |succ m ih=>
  intro a b p hp h hM hm
  rw [W_eq P L g p a b hP h]
  rw [List.any_eq_false]
  intro i hi
  obtain ⟨i0,i1,h2,h3⟩:=ptsL_free P L g p a b hP h i hi
  obtain ⟨h4,h5⟩:=h.move p i h2 h3
  obtain ⟨⟨j0,j1⟩,jn1,jj⟩:=K.inv i i0 i1
  have hs:=h.small (by omega)
  have hs1:=h4.small (by omega)
  have hok:=(List.mem_filter.1 hi).2
  unfold okP at hok
  rw [Bool.and_eq_true,mvR_nat a p i hs.1 i0 (by omega),mvB_nat b p i hs.2 i0 (by omega)] at hok
  have hf1:=(fair_bd hP L g h4).1 hok.2
  have e1:=fun x=>dg_move a b p i x h3
  have hdj:dg (mvA p a i) (mvC p b i) (rd z i).toNat=0:=by
   rw [e1,if_neg (by omega)]
   rcases colOk_cases (hM i i0 i1) with ⟨_,k⟩|⟨k,_⟩|⟨k,_⟩
   ·exact k
   ·omega
   ·omega
  obtain ⟨h6,h7⟩:=h4.move (1-p) (rd z i) (by omega) hdj
  have e2:=fun x=>dg_move (mvA p a i) (mvC p b i) (1-p) (rd z i) x hdj
  have hcc:((if p=0 then 1 else 2:Nat)=1∧(if 1-p=0 then 1 else 2:Nat)=2)∨((if p=0 then 1 else 2:Nat)=2∧(if 1-p=0 then 1 else 2:Nat)=1):=by
   rcases hp with rfl|rfl
   ·exact .inl ⟨rfl,rfl⟩
   ·exact .inr ⟨rfl,rfl⟩
  generalize (if p=0 then 1 else 2:Nat)=c1 at e1 hcc
  generalize (if 1-p=0 then 1 else 2:Nat)=c2 at e2 hcc
  have hf2:=mirror_fair hP K h hM p i hp i0 i1 h3 _ _ _ _ e1 e2 hcc hf1
  have hM2:Mir P (mvA (1-p) (mvA p a i) (rd z i)) (mvC (1-p) (mvC p b i) (rd z i)) z:=by
   intro x x0 x1
   obtain ⟨⟨q0,q1⟩,qn,qq⟩:=K.inv x x0 x1
   refine colOk_of ?_
   rw [e2,e2,e1,e1]
   by_cases cx:x=i
   ·subst cx
    rw [if_neg (by omega),if_pos rfl,if_pos rfl]
    rcases hcc with ⟨k1,k2⟩|⟨k1,k2⟩
    ·exact .inr (.inl ⟨k1,k2⟩)
    ·exact .inr (.inr ⟨k1,k2⟩)
   ·by_cases cx2:x=rd z i
    ·subst cx2
     rw [jj,if_pos rfl,if_neg (by omega),if_pos rfl]
     rcases hcc with ⟨k1,k2⟩|⟨k1,k2⟩
     ·exact .inr (.inr ⟨k2,k1⟩)
     ·exact .inr (.inl ⟨k2,k1⟩)
    ·have n1:rd z x≠i:=fun e=>cx2 (by rw [← e,qq])
     have n2:rd z x≠rd z i:=fun e=>cx (by rw [← qq,e,jj])
     rw [if_neg (by omega),if_neg (by omega),if_neg (by omega),if_neg (by omega)]
     exact colOk_cases (hM x x0 x1)
  have hl:=ih _ _ (1-(1-p)) (by omega) h6 hM2 (by omega)
  have hmem:rd z i∈ptsL P L (mvA p a i) (mvC p b i) g (1-p):=by
   unfold ptsL
   refine List.mem_filter.2 ⟨(mem_seg _ _ _).2 ⟨j0,by omega⟩,?_⟩
   unfold okP
   rw [col_dg _ _ _ hs1.1 hs1.2 j0 (by omega),hdj,mvR_nat _ _ _ hs1.1 j0 (by omega),mvB_nat _ _ _ hs1.2 j0 (by omega),(fair_bd hP L g h6).2 hf2]
   rfl
  have hW1:W P L g (mvA p a i) (mvC p b i) (1-p)=true:=by
   rw [W_eq P L g (1-p) _ _ hP h4]
   exact List.any_eq_true.2 ⟨_,hmem,by rw [hl];rfl⟩
  rw [hW1]
  decide
end
theorem Ko_kept {P L:Int} (hP:1≤P) {a b:Nat} (d:Nat):∀ p z:List Int,Inv P p→mt P L p=true→(∀ x:Int,0≤x→x<P→0≤rd p x→jn L x (rd p x)=false∧colOk a b x (rd p x)=true)→Ko P L a b d p=some z→Kept2 P L z∧Mir P a b z∧(z.length:Int)=P:=by
 induction d with
 |zero=>intro p z _ _ _ h;cases h
 |succ d ih=>
  intro p z h hm hq hk
  simp only [Ko] at hk
  cases e:fI P p with
  |none=>
   rw [e] at hk
   simp only at hk
   obtain rfl:=Option.some.inj hk
   have hn:=fI_none e
   have hinv:∀ x:Int,0≤x→x<P→(0≤rd p x∧rd p x<P)∧rd p x≠x∧rd p (rd p x)=x:=fun x h0 h1=>by
    rcases h.2 x h0 h1 with c|c
    ·have:=hn x h0 h1;omega
    ·exact c
   refine ⟨⟨hinv,fun x h0 h1=>(hq x h0 h1 (hn x h0 h1)).1,fun x y x0 x1 y0 y1 hne=>?_⟩,fun x h0 h1=>(hq x h0 h1 (hn x h0 h1)).2,h.1⟩
   have key:=mt_iff.1 hm
   by_cases c:y<x
   ·exact key x y y0 c (by omega) (hn x x0 x1) (hn y y0 y1)
   ·rw [jn_sym L x y,jn_sym L (rd p x) (rd p y)]
    exact key y x x0 (by omega) (by omega) (hn y y0 y1) (hn x x0 x1)
  |some i=>
   rw [e] at hk
   simp only at hk
   obtain ⟨hi,hpi,_⟩:=fI_some hP h e
   obtain ⟨j,hj,hkj⟩:=List.exists_of_findSome?_eq_some hk
   obtain ⟨hj1,hpj⟩:=mem_cands hi h hj
   split at hkj
   rotate_left
   ·cases hkj
   rename_i hmt
   have hcand:=(List.mem_filter.1 hj).2
   unfold candB at hcand
   simp only [Bool.and_eq_true,Bool.not_eq_true'] at hcand
   have ho:=h.own i j hi (by omega) (by omega) hpi hpj
   refine ih _ z ho hmt (fun x x0 x1 hx=>?_) hkj
   have hr:=rd_own h i j x hi (by omega) x0
   rw [hr] at hx ⊢
   by_cases c1:x=j
   ·subst c1
    rw [if_pos rfl]
    refine ⟨by rw [jn_sym];exact hcand.2.1,colOk_of ?_⟩
    rcases colOk_cases hcand.2.2 with ⟨k1,k2⟩|⟨k1,k2⟩|⟨k1,k2⟩
    ·exact .inl ⟨k2,k1⟩
    ·exact .inr (.inr ⟨k2,k1⟩)
    ·exact .inr (.inl ⟨k2,k1⟩)
   ·rw [if_neg c1] at hx ⊢
    by_cases c2:x=i
    ·subst c2
     rw [if_pos rfl]
     exact ⟨hcand.2.1,hcand.2.2⟩
    ·rw [if_neg c2] at hx ⊢
     exact hq x x0 x1 hx
end Go.Proofs.YtlmohkbimnhecaaGreat.B
