/-
  Fields: program's and reference's tests of fields and of joined points come to the same. No condition beyond those that are written.
  Colours and digits of fields, and fields as pairs of sets. Fields alone, as the facts ask.
  Fairness of fields, the codes of fields, and the points that a player may colour: program and reference come to the same. No condition beyond those that are written.
  The points that a player may colour: program and reference come to one plain list. Fields alone, as the facts ask.
  Who wins a field: the plain recursion, in the words of digits; the program's store-free recursion comes to it. Fields alone, as the facts ask.
  Fields as pairs of sets; the code of a field and a game. Fields alone, as the facts ask.
  The reference's table of outcomes: places, the table's making, and who wins with it. Fields alone, as the facts ask.
  The best points with the reference's table, and as the program chooses them. Fields alone, as the facts ask.
  The play on a field, plainly: the first best point, or the first point, one behind the other; program and reference come to it. Fields alone, as the facts ask.
  The least and the greatest number of moves, plainly; the program's store-free recursion comes to it, and the reference's table. Fields alone, as the facts ask.
  Kept matchings: the program's search, that tests at its end, and the reference's, that tests at each step, come to the same. Fields alone, as the facts ask.
  The two searches for kept matchings, valued: the program's matchFrom tells Mo, the reference's l05Kept tells Ko, and FindKept is told by either.
-/
import Derived.Test.YtlmohkbimnhecaaGreatQ3
import Derived.Test.YtlmohkbimnhecaaGreatQ4
import Derived.Test.YtlmohkbimnhecaaGreatQ1
import Derived.Test.YtlmohkbimnhecaaGreatBase
import Derived.Test.YtlmohkbimnhecaaGreatHof
import Derived.Test.YtlmohkbimnhecaaGreatOutPoints
import Derived.Test.YtlmohkbimnhecaaGreatWinsCode
import Derived.Test.YtlmohkbimnhecaaGreatOutBest
import Derived.Test.YtlmohkbimnhecaaGreatOutPlay
import Derived.Test.YtlmohkbimnhecaaGreatQ5
import Derived.Test.YtlmohkbimnhecaaGreatLeftCode
import Derived.Test.YtlmohkbimnhecaaGreatQ7
import Derived.Test.YtlmohkbimnhecaaGreatQ9
import Derived.Test.YtlmohkbimnhecaaGreatQ6
namespace Go.Proofs.YtlmohkbimnhecaaGreat.B
open Go.RowKit Go.Proofs.YtlmohkbimnhecaaGreat.Q Go.Proofs.YtlmohkbimnhecaaGreatW.PrintWords Go.Proofs.YtlmohkbimnhecaaGreatW.PrintLast Go.Proofs.YtlmohkbimnhecaaGreatW.PrintMore
def trI (n:Int):Int:=wrap64 (Int.tdiv (wrap64 (n*(wrap64 (n-1)))) 2)
theorem trI_range (n:Int) (h0:0≤n) (h1:n≤16):0≤trI n∧trI n≤120∧IntKind.u64.wrap (trI n)=trI n:=by
 have h:∀ m:Fin 17,0≤trI (m.val:Nat)∧trI (m.val:Nat)≤120∧IntKind.u64.wrap (trI (m.val:Nat))=trI (m.val:Nat):=by decide +kernel
 have:=h ⟨n.toNat,by omega⟩
 simp only [Int.toNat_of_nonneg h0] at this
 exact this
theorem u64_at (n:Int) (h0:0≤n) (h1:n≤1000000):IntKind.u64.wrap n=n:=by
 have:IntKind.u64.wrap n=n%18446744073709551616:=by
  simp [IntKind.wrap,IntKind.bits,IntKind.signed]
 omega
theorem isField_same (P L R B:Int):spec_l05Is.f P L R B=impl_IsField.f P L R B:=by
 unfold impl_IsField.f spec_l05Is.f impl_pairs.f
 simp only [within_eq,l01In_eq,Option.bind_some]
 by_cases h:1≤P∧P≤8
 ·obtain ⟨t0,t1,t2⟩:=trI_range P (by omega) (by omega)
  rw [show wrap64 (Int.tdiv (wrap64 (P*(wrap64 (P-1)))) 2)=trI P from rfl,t2,u64_at P (by omega) (by omega),if_pos t0,if_pos t0,if_pos (show 0≤P by omega)]
  rw [decide_eq_true h]
  simp only [if_true]
  by_cases c:0≤L∧L≤wrap64 (shl .i64 1 (trI P)-1)
  ·rw [decide_eq_true c]
   simp only [if_true]
   rw [if_pos (show 0≤P by omega)]
  ·rw [decide_eq_false c]
   rfl
 ·rw [decide_eq_false h]
  rfl
def jn (L i j:Int):Bool:=Go.bits .and .i64 (shr .i64 L (trI (mx i j)+mn i j)) 1==1
theorem joins_impl (P L R B i j:Int) (hi:0≤i∧i≤16) (hj:0≤j∧j≤16) (hne:i≠j):impl_Field_joins.f P L R B i j=some (jn L i j):=by
 have hm:(0≤mx i j∧mx i j≤16)∧(0≤mn i j∧mn i j≤16)∧mn i j≠mx i j:=by
  unfold mx mn
  split<;>(split<;>omega)
 obtain ⟨⟨a0,a1⟩,⟨b0,b1⟩,hn⟩:=hm
 obtain ⟨t0,t1,t2⟩:=trI_range (mx i j) a0 a1
 unfold impl_Field_joins.f impl_pairs.f jn
 rw [if_neg hn,show wrap64 (Int.tdiv (wrap64 ((mx i j)*(wrap64 ((mx i j)-1)))) 2)=trI (mx i j) from rfl]
 simp only [Option.bind_some]
 rw [wrap_in (x:=trI (mx i j)+mn i j) (by omega) (by omega),if_pos (by omega)]
theorem joins_spec (P L R B i j:Int) (hi:0≤i∧i≤16) (hj:0≤j∧j≤16):spec_l05Joined.f P L R B i j=some (jn L i j):=by
 have hm:(0≤mx i j∧mx i j≤16)∧(0≤mn i j∧mn i j≤16):=by
  unfold mx mn
  split<;>(split<;>omega)
 obtain ⟨⟨a0,a1⟩,b0,b1⟩:=hm
 obtain ⟨t0,t1,t2⟩:=trI_range (mx i j) a0 a1
 unfold spec_l05Joined.f jn
 rw [show wrap64 (Int.tdiv (wrap64 ((mx i j)*(wrap64 ((mx i j)-1)))) 2)=trI (mx i j) from rfl]
 rw [wrap_in (x:=trI (mx i j)+mn i j) (by omega) (by omega),u64_at _ (by omega) (by omega),if_pos (by omega)]
theorem field_facts (P L R B:Int) (h:impl_IsField.f P L R B=some true):1≤P∧P≤8:=by
 unfold impl_IsField.f at h
 rw [within_eq] at h
 by_cases c:1≤P∧P≤8
 ·exact c
 ·rw [decide_eq_false c] at h
  simp at h
theorem field_total (P L R B:Int):∃ b,impl_IsField.f P L R B=some b:=by
 unfold impl_IsField.f impl_pairs.f
 simp only [within_eq,Option.bind_some]
 by_cases h:1≤P∧P≤8
 ·obtain ⟨t0,t1,t2⟩:=trI_range P (by omega) (by omega)
  rw [show wrap64 (Int.tdiv (wrap64 (P*(wrap64 (P-1)))) 2)=trI P from rfl,if_pos t0,if_pos (show 0≤P by omega)]
  repeat' split
  all_goals exact ⟨_,rfl⟩
 ·rw [decide_eq_false h]
  exact ⟨false,rfl⟩
end Go.Proofs.YtlmohkbimnhecaaGreat.B
namespace Go.Proofs.YtlmohkbimnhecaaGreat.B
open Go.RowKit Go.Proofs.YtlmohkbimnhecaaGreat.Q Go.Proofs.YtlmohkbimnhecaaGreatW.PrintWords Go.Proofs.YtlmohkbimnhecaaGreatW.PrintLast Go.Proofs.YtlmohkbimnhecaaGreatW.PrintMore
def col (R B i:Int):Int:=wrap64 ((Go.bits .and .i64 (shr .i64 R i) 1)+(wrap64 (2*(Go.bits .and .i64 (shr .i64 B i) 1))))
theorem colour_impl (P L R B i:Int) (h:0≤i):impl_Field_colour.f P L R B i=some (col R B i):=by
 unfold impl_Field_colour.f col
 rw [if_pos h]
theorem dig_div (x e:Int) (h0:0≤x) (h1:x<9223372036854775808) (he0:0≤e) (he1:e≤60):Go.bits .and .i64 (shr .i64 x e) 1=((x.toNat/2 ^ e.toNat%2:Nat):Int):=by
 have r:=shr_range x e h0 h1
 rw [bit01 _ r.1 r.2]
 unfold shr
 obtain ⟨n,rfl⟩:=Int.eq_ofNat_of_zero_le h0
 rw [show min e.toNat IntKind.i64.bits=e.toNat from Nat.min_eq_left (by have:IntKind.i64.bits=64:=rfl;omega),Int.toNat_natCast]
 have e2:((2:Int) ^ e.toNat)=((2 ^ e.toNat:Nat):Int):=by push_cast;rfl
 rw [e2]
 generalize 2 ^ e.toNat=m
 rw [Int.natCast_emod,Int.natCast_ediv]
 rfl
theorem dig_bit (a:Nat) (i:Int) (ha:a<2 ^ 62) (h0:0≤i) (h1:i≤60):Go.bits .and .i64 (shr .i64 (a:Int) i) 1=(((a.testBit i.toNat).toNat:Nat):Int):=by
 have k62:(2:Nat) ^ 62=4611686018427387904:=by decide
 rw [dig_div _ i (by omega) (by omega) h0 h1,Int.toNat_natCast,Nat.testBit_eq_decide_div_mod_eq]
 have:=Nat.mod_two_eq_zero_or_one (a/2 ^ i.toNat)
 rcases this with e|e<;>simp [e]
theorem col_dg (a b:Nat) (i:Int) (ha:a<2 ^ 62) (hb:b<2 ^ 62) (h0:0≤i) (h1:i≤60):col a b i=((dg a b i.toNat:Nat):Int):=by
 unfold col dg
 rw [dig_bit a i ha h0 h1,dig_bit b i hb h0 h1]
 cases a.testBit i.toNat<;>cases b.testBit i.toNat<;>decide +kernel
theorem field_two (P L R B:Int) (h:impl_IsField.f P L R B=some true):∃ a b:Nat,R=a∧B=b∧Two P.toNat a b:=by
 obtain ⟨p0,p1⟩:=field_facts P L R B h
 obtain ⟨t0,t1,t2⟩:=trI_range P (by omega) (by omega)
 have hs:=shl_one P (by omega) (by omega)
 have hp:=pow_le P 8 (by omega)
 have hq:=pow_pos' P
 have hf:wrap64 (shl .i64 1 P-1)=((2 ^ P.toNat:Nat):Int)-1:=by rw [hs,wrap_in (by omega) (by omega)]
 unfold impl_IsField.f impl_pairs.f at h
 simp only [within_eq,Option.bind_some] at h
 rw [hf,decide_eq_true (show 1≤P∧P≤8 from ⟨p0,p1⟩),show wrap64 (Int.tdiv (wrap64 (P*(wrap64 (P-1)))) 2)=trI P from rfl,if_pos rfl,if_pos t0] at h
 split at h
 ·rw [if_pos (show 0≤P by omega)] at h
  split at h
  ·rename_i hr
   split at h
   ·rename_i hb
    have hr':=of_decide_eq_true hr
    have hb':=of_decide_eq_true hb
    obtain ⟨a,rfl⟩:=Int.eq_ofNat_of_zero_le hr'.1
    obtain ⟨b,rfl⟩:=Int.eq_ofNat_of_zero_le hb'.1
    have ha:a<2 ^ P.toNat:=by omega
    have hb2:b<2 ^ P.toNat:=by omega
    refine ⟨a,b,rfl,rfl,two_of_and P.toNat a b ha hb2 ?_⟩
    rw [and_nat a b (Nat.lt_of_lt_of_le ha (Nat.pow_le_pow_right (by decide) (by omega))) (Nat.lt_of_lt_of_le hb2 (Nat.pow_le_pow_right (by decide) (by omega)))] at h
    simp at h
    omega
   ·cases h
  ·cases h
 ·cases h
theorem pow62 (n i:Nat) (hi:i≤n) (hn:n≤61):2 ^ i<2 ^ 62:=Nat.pow_lt_pow_right (by decide) (by omega)
theorem Two.small {n a b:Nat} (h:Two n a b) (hn:n≤61):a<2 ^ 62∧b<2 ^ 62:=⟨Nat.lt_trans h.1 (pow62 61 n hn (by decide)),Nat.lt_trans h.2.1 (pow62 61 n hn (by decide))⟩
end Go.Proofs.YtlmohkbimnhecaaGreat.B
namespace Go.Proofs.YtlmohkbimnhecaaGreat.B
open Go.RowKit Go.Proofs.YtlmohkbimnhecaaGreat.Q Go.Proofs.YtlmohkbimnhecaaGreatW.PrintWords Go.Proofs.YtlmohkbimnhecaaGreatW.PrintLast Go.Proofs.YtlmohkbimnhecaaGreatW.PrintMore
theorem col_cases (R B i:Int):col R B i=0∨col R B i=1∨col R B i=2∨col R B i=3:=by
 unfold col
 rcases and_one (shr .i64 R i) with e|e<;>rcases and_one (shr .i64 B i) with g|g<;>rw [e,g] <;> decide +kernel
def badP (L R B g i j:Int):Bool:=jn L i j&&(!(col R B i==0)&&(!(col R B j==0)&&((col R B i==col R B j)==(g==0))))
def fairIn (L R B g j:Int):Nat→Int→Bool
 |0,_=>true
 |d+1,i=>if badP L R B g i j=true then false else fairIn L R B g j d (i+1)
def fairOut (L R B g:Int):Nat→Int→Bool
 |0,_=>true
 |d+1,j=>if fairIn L R B g j j.toNat 0=true then fairOut L R B g d (j+1) else false
def fairB (P L R B g:Int):Bool:=fairOut L R B g P.toNat 0
section
variable (P L R B g:Int)
theorem fin_impl (j:Int) (hj:0≤j∧j<16) (r:Bool) (hk:Ev (fun k=>impl_Field_isFair.l0 k g P (wrap64 (j+1)) P L R B) r) (d:Nat):
 ∀ i:Int,0≤i→j=i+d→Ev (fun k=>impl_Field_isFair.l1 k g j P j j i P L R B) (if fairIn L R B g j d i=true then r else false):=by
 induction d with
 |zero=>
  intro i h0 h1
  refine evSucc (fun k=>by rw [impl_Field_isFair.l1]) ?_
  exact evF (by omega) (evE (by simp [fairIn]) hk)
 |succ d ih=>
  intro i h0 h1
  refine evSucc (fun k=>by rw [impl_Field_isFair.l1]) ?_
  rw [colour_impl P L R B i h0,colour_impl P L R B j hj.1,joins_impl P L R B i j (by omega) (by omega) (by omega),wrap_in (x:=i+1) (by omega) (by omega)]
  have hx:=ih (i+1) (by omega) (by omega)
  refine evT (by omega) (evG rfl (evG rfl (evG rfl ?_)))
  have hs:fairIn L R B g j (d+1) i=if badP L R B g i j=true then false else fairIn L R B g j d (i+1):=rfl
  rw [hs]
  unfold badP
  cases c1:jn L i j with
  |false=>exact evF (by simp) (evE (by simp) hx)
  |true=>
   refine evT rfl ?_
   by_cases c2:col R B i=0
   ·exact evT c2 (evE (by simp [c2]) hx)
   ·refine evF c2 ?_
    by_cases c3:col R B j=0
    ·exact evT c3 (evE (by simp [c3]) hx)
    ·refine evF c3 ?_
     cases c4:((col R B i==col R B j)==(g==0)) with
     |true=>exact evT rfl (evE (by simp [c2,c3]) (evS false))
     |false=>exact evF (by simp) (evE (by simp) hx)
theorem fout_impl (hP:P≤16) (d:Nat):∀ j:Int,0≤j→P=j+d→Ev (fun k=>impl_Field_isFair.l0 k g P j P L R B) (fairOut L R B g d j):=by
 induction d with
 |zero=>
  intro j h0 h1
  refine evSucc (fun k=>by rw [impl_Field_isFair.l0]) ?_
  exact evF (by omega) (evS _)
 |succ d ih=>
  intro j h0 h1
  refine evSucc (fun k=>by rw [impl_Field_isFair.l0]) ?_
  refine evT (by omega) ?_
  have hx:=ih (j+1) (by omega) (by omega)
  exact fin_impl P L R B g j (by omega) _ (by rw [wrap_in (x:=j+1) (by omega) (by omega)];exact hx) j.toNat 0 (by omega) (by omega)
theorem fin_spec (j:Int) (hj:0≤j∧j<16) (r:Bool) (hk:Ev (fun k=>spec_l05Fair.l0 k g (wrap64 (j+1)) P L R B) r) (d:Nat):
 ∀ i:Int,0≤i→j=i+d→Ev (fun k=>spec_l05Fair.l1 k g j i P L R B) (if fairIn L R B g j d i=true then r else false):=by
 induction d with
 |zero=>
  intro i h0 h1
  refine evSucc (fun k=>by rw [spec_l05Fair.l1]) ?_
  exact evF (by omega) (evE (by simp [fairIn]) hk)
 |succ d ih=>
  intro i h0 h1
  refine evSucc (fun k=>by rw [spec_l05Fair.l1]) ?_
  rw [joins_spec P L R B i j (by omega) (by omega),wrap_in (x:=i+1) (by omega) (by omega),u64_at i h0 (by omega),u64_at j hj.1 (by omega)]
  have e1:wrap64 ((Go.bits .and .i64 (shr .i64 R i) 1)+(wrap64 (2*(Go.bits .and .i64 (shr .i64 B i) 1))))=col R B i:=rfl
  have e2:wrap64 ((Go.bits .and .i64 (shr .i64 R j) 1)+(wrap64 (2*(Go.bits .and .i64 (shr .i64 B j) 1))))=col R B j:=rfl
  rw [e1,e2]
  have hx:=ih (i+1) (by omega) (by omega)
  refine evT (by omega) (evG rfl ?_)
  have hs:fairIn L R B g j (d+1) i=if badP L R B g i j=true then false else fairIn L R B g j d (i+1):=rfl
  rw [hs]
  unfold badP
  have k1:=col_cases R B i
  have k2:=col_cases R B j
  cases c1:jn L i j with
  |false=>exact evF (by simp) (evE (by simp) hx)
  |true=>
   refine evT rfl (evT h0 (evT hj.1 ?_))
   by_cases c2:col R B i=0
   ·exact evF (by omega) (evE (by simp [c2]) hx)
   ·refine evT (by omega) ?_
    by_cases c3:col R B j=0
    ·exact evF (by omega) (evE (by simp [c3]) hx)
    ·refine evT (by omega) ?_
     cases c4:((col R B i==col R B j)==(g==0)) with
     |true=>exact evT rfl (evE (by simp [c2,c3]) (evS false))
     |false=>exact evF (by simp) (evE (by simp) hx)
theorem fout_spec (hP:P≤16) (d:Nat):∀ j:Int,0≤j→P=j+d→Ev (fun k=>spec_l05Fair.l0 k g j P L R B) (fairOut L R B g d j):=by
 induction d with
 |zero=>
  intro j h0 h1
  refine evSucc (fun k=>by rw [spec_l05Fair.l0]) ?_
  exact evF (by omega) (evS _)
 |succ d ih=>
  intro j h0 h1
  refine evSucc (fun k=>by rw [spec_l05Fair.l0]) ?_
  refine evT (by omega) ?_
  have hx:=ih (j+1) (by omega) (by omega)
  exact fin_spec P L R B g j (by omega) _ (by rw [wrap_in (x:=j+1) (by omega) (by omega)];exact hx) j.toNat 0 (by omega) (by omega)
theorem fair_impl (hP:1≤P∧P≤16):Ev (fun k=>impl_Field_isFair.f k P L R B g) (fairB P L R B g):=by
 unfold impl_Field_isFair.f fairB
 exact fout_impl P L R B g hP.2 P.toNat 0 (by omega) (by omega)
theorem fair_spec (hP:1≤P∧P≤16):Ev (fun k=>spec_l05Fair.f k P L R B g) (fairB P L R B g):=by
 unfold spec_l05Fair.f fairB
 have h:=fout_spec P L R B g hP.2 (P.toNat-1) 1 (by omega) (by omega)
 rw [show P.toNat=(P.toNat-1)+1 by omega]
 exact h
end
def codeF (P L R B g p:Int) (b:Bool):Int:=if b=true then if (0≤g∧g≤1)∧(0≤p∧p≤1) then if fairB P L R B g=true then 0 else 5 else 2 else 1
theorem isBit_eq (x:Int):impl_isBit.f x=some (decide (0≤x∧x≤1)):=by
 unfold impl_isBit.f
 rw [within_eq]
 rfl
theorem code_impl (P L R B g p:Int) (b:Bool) (h:impl_IsField.f P L R B=some b):Ev (fun k=>impl_fieldCode.f k P L R B g p) (codeF P L R B g p b):=by
 unfold impl_fieldCode.f codeF
 rw [h,isBit_eq,isBit_eq]
 refine evG rfl (evG rfl ?_)
 have hj:∀ c x:Int,(c=0→Ev (fun k=>impl_fieldCode.j0 k g c P L R B) x)→(c≠0→x=c)→Ev (fun k=>impl_fieldCode.j0 k g c P L R B) x:=by
  intro c x h1 h2
  by_cases e:c=0
  ·exact h1 e
  ·rw [h2 e]
   refine evSucc (fun k=>by rw [impl_fieldCode.j0]) ?_
   exact evF e (evS _)
 cases b with
 |false=>
  by_cases hg:0≤g∧g≤1
  ·refine evT (by simpa using hg) (evG rfl (evB (first_two _ _ _ _) (hj _ _ (fun e=>absurd e (by simp)) (fun _=>by simp))))
  ·refine evF (by simpa using hg) (evB (first_two _ _ _ _) (hj _ _ (fun e=>absurd e (by simp)) (fun _=>by simp)))
 |true=>
  obtain ⟨p0,p1⟩:=field_facts P L R B h
  by_cases hg:0≤g∧g≤1
  ·refine evT (by simpa using hg) (evG rfl (evB (first_two _ _ _ _) ?_))
   by_cases hp:0≤p∧p≤1
   ·rw [decide_eq_true hp]
    refine evSucc (fun k=>by rw [impl_fieldCode.j0]) ?_
    refine evT (by simp) (evB (fair_impl P L R B g (by omega)) (evB (first_one _ _) (evE ?_ (evS _))))
    simp [hg,hp]
   ·rw [decide_eq_false hp]
    exact hj _ _ (fun e=>absurd e (by simp)) (fun _=>by simp [hp])
  ·refine evF (by simpa using hg) (evB (first_two _ _ _ _) (hj _ _ (fun e=>absurd e (by simp)) (fun _=>by simp [hg])))
theorem code_spec (P L R B g p:Int) (b:Bool) (h:impl_IsField.f P L R B=some b):Ev (fun k=>spec_l05Player.f k P L R B g p) (codeF P L R B g p b):=by
 unfold spec_l05Player.f spec_l05Code.f codeF
 rw [isField_same,h,l01In_eq,l01In_eq]
 cases b with
 |false=>exact evB (a:=(1:Int)) (evG rfl (evF (by simp) (evS _))) (evT rfl (evE (by simp) (evS _)))
 |true=>
  obtain ⟨p0,p1⟩:=field_facts P L R B h
  by_cases hg:0≤g∧g≤1
  ·refine evB (a:=(if fairB P L R B g=true then 0 else 5:Int)) (evG rfl (evT rfl (evG rfl (evT (by simpa using hg) (evB (fair_spec P L R B g (by omega)) ?_))))) ?_
   ·cases fairB P L R B g with
    |true=>exact evT rfl (evS _)
    |false=>exact evF (by simp) (evS _)
   ·refine evF (by split<;>decide) (evG rfl ?_)
    by_cases hp:0≤p∧p≤1
    ·exact evT (by simpa using hp) (evE (by simp [hg,hp]) (evS _))
    ·exact evF (by simpa using hp) (evE (by simp [hp]) (evS _))
  ·refine evB (a:=(2:Int)) (evG rfl (evT rfl (evG rfl (evF (by simpa using hg) (evS _))))) (evF (by decide) (evG rfl ?_))
   by_cases hp:0≤p∧p≤1
   ·exact evT (by simpa using hp) (evE (by simp [hg]) (evS _))
   ·exact evF (by simpa using hp) (evE (by simp [hp]) (evS _))
end Go.Proofs.YtlmohkbimnhecaaGreat.B
namespace Go.Proofs.YtlmohkbimnhecaaGreat.B
open Go.RowKit Go.Proofs.YtlmohkbimnhecaaGreat.Q Go.Proofs.YtlmohkbimnhecaaGreatW.PrintWords Go.Proofs.YtlmohkbimnhecaaGreatW.PrintLast Go.Proofs.YtlmohkbimnhecaaGreatW.PrintMore
def mvR (R p i:Int):Int:=if p=0 then Go.bits .or .i64 R (shl .i64 1 i) else R
def mvB (B p i:Int):Int:=if p=0 then B else Go.bits .or .i64 B (shl .i64 1 i)
theorem coloured_impl (P L R B p i:Int) (h:0≤i):impl_Field_coloured.f P L R B p i=some (P,L,mvR R p i,mvB B p i):=by
 unfold impl_Field_coloured.f mvR mvB
 by_cases c:p=0
 ·rw [if_pos c,if_pos h,if_pos c,if_pos c]
 ·rw [if_neg c,if_pos h,if_neg c,if_neg c]
theorem move_spec (P L R B p i:Int) (h:0≤i) (h1:i≤1000):spec_l05Move.f P L R B p i=some (P,L,mvR R p i,mvB B p i):=by
 unfold spec_l05Move.f mvR mvB
 rw [u64_at i h (by omega)]
 by_cases c:p=0
 ·rw [if_pos c,if_pos h,if_pos c,if_pos c]
 ·rw [if_neg c,if_pos h,if_neg c,if_neg c]
def okP (P L R B g p i:Int):Bool:=(col R B i==0)&&fairB P L (mvR R p i) (mvB B p i) g
def ptsL (P L R B g p:Int):List Int:=(seg 0 P.toNat).filter (okP P L R B g p)
theorem ptsL_len (P L R B g p:Int) (h:P≤8):(ptsL P L R B g p).length≤8:=by
 have:=filter_length_le_seg (okP P L R B g p) 0 P.toNat
 unfold ptsL
 omega
theorem points_impl (P L R B g p:Int) (hP:1≤P∧P≤8):Ev (fun k=>impl_Field_points.f k P L R B g p) (ptsL P L R B g p):=by
 unfold impl_Field_points.f
 refine evT (by omega) ?_
 refine chooseP_ev (fun k=>pointsP k P L R B g p) _ _ 0 (fun x hx0 hx1=>?_)
 unfold pointsP okP
 rw [colour_impl P L R B x hx0]
 refine evG rfl ?_
 by_cases c:col R B x=0
 ·refine evT c ?_
  rw [coloured_impl P L R B p x hx0]
  exact evG rfl (evE (by simp [c]) (fair_impl P L _ _ g (by omega)))
 ·exact evF c (evE (by simp [c]) (evS false))
theorem bits3 (x y z:Nat) (hx:x=0∨x=1) (hy:y=0∨y=1) (hz:z=0∨z=1) (ho:decide (z=1)=(decide (x=1)||decide (y=1))):((z:Nat):Int)=if wrap64 ((x:Int)+wrap64 (2*(y:Int)))=0 then 0 else 1:=by
 rcases hx with rfl|rfl<;>rcases hy with rfl|rfl<;>rcases hz with rfl|rfl<;>first|(exfalso;revert ho;decide)|decide +kernel
theorem or_digit (R B i:Int) (hR:0≤R∧R<4611686018427387904) (hB:0≤B∧B<4611686018427387904) (h0:0≤i) (h1:i≤60):Go.bits .and .i64 (shr .i64 (Go.bits .or .i64 R B) i) 1=if col R B i=0 then 0 else 1:=by
 have k62:(2:Nat) ^ 62=4611686018427387904:=by decide
 obtain ⟨a,rfl⟩:=Int.eq_ofNat_of_zero_le hR.1
 obtain ⟨b,rfl⟩:=Int.eq_ofNat_of_zero_le hB.1
 have hl:=Nat.or_lt_two_pow (x:=a) (y:=b) (n:=62) (by omega) (by omega)
 unfold col
 rw [or_nat a b (by omega) (by omega),dig_div _ i (by omega) (by omega) h0 h1,dig_div _ i (by omega) (by omega) h0 h1,dig_div _ i (by omega) (by omega) h0 h1]
 simp only [Int.toNat_natCast]
 have ho:(a|||b).testBit i.toNat=(a.testBit i.toNat||b.testBit i.toNat):=Nat.testBit_or ..
 rw [Nat.testBit_eq_decide_div_mod_eq,Nat.testBit_eq_decide_div_mod_eq,Nat.testBit_eq_decide_div_mod_eq] at ho
 clear hl k62 hR hB h0 h1
 have m1:=Nat.mod_two_eq_zero_or_one (a/2 ^ i.toNat)
 have m2:=Nat.mod_two_eq_zero_or_one (b/2 ^ i.toNat)
 have m3:=Nat.mod_two_eq_zero_or_one ((a|||b)/2 ^ i.toNat)
 exact bits3 _ _ _ m1 m2 m3 ho
theorem points_spec_l (P L R B g p:Int) (hP:1≤P∧P≤8) (hR:0≤R∧R<4611686018427387904) (hB:0≤B∧B<4611686018427387904) (d:Nat):∀ (i:Int) (acc:List Int),0≤i→i+d=P→acc.length≤i →
 Ev (fun k=>spec_l05Points.l0 k g p acc i P L R B) (acc++(seg i d).filter (okP P L R B g p)):=by
 induction d with
 |zero=>
  intro i acc h0 h1 h2
  refine evSucc (fun k=>by rw [spec_l05Points.l0]) ?_
  exact evF (by omega) (evE (by simp [seg]) (evS acc))
 |succ d ih=>
  intro i acc h0 h1 h2
  refine evSucc (fun k=>by rw [spec_l05Points.l0]) ?_
  rw [u64_at i h0 (by omega),or_digit R B i hR hB h0 (by omega),move_spec P L R B p i h0 (by omega),wrap_in (x:=i+1) (by omega) (by omega)]
  refine evT (by omega) (evT h0 ?_)
  have hq:okP P L R B g p i=((col R B i==0)&&fairB P L (mvR R p i) (mvB B p i) g):=rfl
  by_cases c:col R B i=0
  ·refine evT (by rw [if_pos c]) (evG rfl (evB (fair_spec P L _ _ g (by omega)) ?_))
   cases hf:fairB P L (mvR R p i) (mvB B p i) g with
   |true=>
    refine evT rfl (evT (by omega) (evE ?_ (ih (i+1) (acc++[i]) (by omega) (by omega) (by simp;omega))))
    simp [seg,hq,c,hf]
   |false=>
    refine evF (by simp) (evE ?_ (ih (i+1) acc (by omega) (by omega) (by omega)))
    simp [seg,hq,c,hf]
  ·refine evF (by rw [if_neg c];decide) (evE ?_ (ih (i+1) acc (by omega) (by omega) (by omega)))
   simp [seg,hq,c]
theorem points_spec (P L R B g p:Int) (hP:1≤P∧P≤8) (hR:0≤R∧R<4611686018427387904) (hB:0≤B∧B<4611686018427387904):Ev (fun k=>spec_l05Points.f k P L R B g p) (ptsL P L R B g p):=by
 unfold spec_l05Points.f
 have:=points_spec_l P L R B g p hP hR hB P.toNat 0 [] (by omega) (by omega) (by simp)
 simpa [ptsL] using this
theorem codeF_zero (P L R B g p:Int) (b:Bool) (h:codeF P L R B g p b=0):b=true∧(0≤g∧g≤1)∧(0≤p∧p≤1):=by
 unfold codeF at h
 split at h
 ·rename_i hb
  split at h
  ·rename_i hc
   exact ⟨hb,hc.1,hc.2⟩
  ·omega
 ·omega
end Go.Proofs.YtlmohkbimnhecaaGreat.B
namespace Go.Proofs.YtlmohkbimnhecaaGreat.B
open Go.RowKit Go.Proofs.YtlmohkbimnhecaaGreat.Q Go.Proofs.YtlmohkbimnhecaaGreatW.PrintWords Go.Proofs.YtlmohkbimnhecaaGreatW.PrintLast Go.Proofs.YtlmohkbimnhecaaGreatW.PrintMore
def mvA (p:Int) (a:Nat) (i:Int):Nat:=if p=0 then a|||2 ^ i.toNat else a
def mvC (p:Int) (b:Nat) (i:Int):Nat:=if p=0 then b else b|||2 ^ i.toNat
theorem mvR_nat (a:Nat) (p i:Int) (ha:a<2 ^ 62) (h0:0≤i) (h1:i≤24):mvR a p i=((mvA p a i:Nat):Int):=by
 unfold mvR mvA
 rw [shl_one i h0 h1,or_nat a _ ha (pow62 24 i.toNat (by omega) (by decide))]
 split<;>rfl
theorem mvB_nat (b:Nat) (p i:Int) (hb:b<2 ^ 62) (h0:0≤i) (h1:i≤24):mvB b p i=((mvC p b i:Nat):Int):=by
 unfold mvB mvC
 rw [shl_one i h0 h1,or_nat b _ hb (pow62 24 i.toNat (by omega) (by decide))]
 split<;>rfl
theorem Two.move {n a b:Nat} (h:Two n a b) (p i:Int) (hi:i.toNat<n) (h0:dg a b i.toNat=0):Two n (mvA p a i) (mvC p b i)∧fr (mvA p a i) (mvC p b i) n+1=fr a b n:=by
 unfold mvA mvC
 by_cases c:p=0
 ·rw [if_pos c,if_pos c]
  exact ⟨h.left hi h0,fr_left n a b _ hi h0⟩
 ·rw [if_neg c,if_neg c]
  exact ⟨h.right hi h0,fr_right n a b _ hi h0⟩
theorem ptsL_free (P L g p:Int) (a b:Nat) (hP:1≤P∧P≤8) (h:Two P.toNat a b) (i:Int) (hi:i∈ptsL P L a b g p):0≤i∧i<P∧i.toNat<P.toNat∧dg a b i.toNat=0:=by
 unfold ptsL at hi
 obtain ⟨h1,h2⟩:=List.mem_filter.1 hi
 have h3:=(mem_seg _ _ _).1 h1
 have hs:=h.small (by omega)
 unfold okP at h2
 rw [col_dg a b i hs.1 hs.2 (by omega) (by omega)] at h2
 simp only [Bool.and_eq_true,beq_iff_eq] at h2
 exact ⟨by omega,by omega,by omega,by omega⟩
def winsB (P L g:Int):Nat→Nat→Nat→Int→Bool
 |0,_,_,_=>false
 |d+1,a,b,p=>(ptsL P L a b g p).any fun i => !winsB P L g d (mvA p a i) (mvC p b i) (1-p)
def W (P L g:Int) (a b:Nat) (p:Int):Bool:=winsB P L g (fr a b P.toNat+1) a b p
theorem any_congr {l:List Int} {p q:Int→Bool} (h:∀ i,i∈l→p i=q i):l.any p=l.any q:=by
 induction l with
 |nil=>rfl
 |cons x l ih=>simp only [List.any_cons,h x List.mem_cons_self,ih (fun i hi=>h i (List.mem_cons_of_mem _ hi))]
theorem W_eq (P L g p:Int) (a b:Nat) (hP:1≤P∧P≤8) (h:Two P.toNat a b):W P L g a b p=(ptsL P L a b g p).any fun i => !W P L g (mvA p a i) (mvC p b i) (1-p):=by
 unfold W
 rw [winsB]
 refine any_congr (fun i hi=>?_)
 obtain ⟨_,_,h2,h3⟩:=ptsL_free P L g p a b hP h i hi
 rw [(h.move p i h2 h3).2]
theorem wf_small (x:Int) (h0:0≤x) (h1:x<4611686018427387904):(Lit.int .i64 x).wf=true:=WalkArith.wf_i64 (by omega)
theorem wins_impl (P L g:Int) (hP:1≤P∧P≤8) (hL:(Lit.int .i64 L).wf=true) (d:Nat):∀ (a b:Nat) (p:Int),(p=0∨p=1)→Two P.toNat a b→fr a b P.toNat<d→Ev (fun k=>winsF k g P L d a b p) (W P L g a b p):=by
 induction d with
 |zero=>intro a b p hp h hd;omega
 |succ d ih=>
  intro a b p hp h hd
  have k62:(2:Nat) ^ 62=4611686018427387904:=by decide
  have hs:=h.small (by omega)
  rw [W_eq P L g p a b hP h]
  simp only [winsF]
  have hp8:=Nat.pow_le_pow_right (show 0<2 by decide) (show P.toNat≤8 by omega)
  have h1:=h.1
  have h2:=h.2.1
  refine evT ⟨wf_small P (by omega) (by omega),hL,by omega,by omega,by omega⟩ ?_
  refine evB (points_impl P L a b g p hP) (evT (by have:=ptsL_len P L a b g p hP.2;omega) ?_)
  refine anyF_ev _ _ _ (fun i hi=>?_)
  obtain ⟨h0,h1,h2,h3⟩:=ptsL_free P L g p a b hP h i hi
  obtain ⟨m1,m2⟩:=h.move p i h2 h3
  rw [coloured_impl P L a b p i h0,mvR_nat a p i hs.1 h0 (by omega),mvB_nat b p i hs.2 h0 (by omega),wrap_in (x:=1-p) (by omega) (by omega)]
  exact evG rfl (evB (ih (mvA p a i) (mvC p b i) (1-p) (by omega) m1 (by omega)) (evS _))
end Go.Proofs.YtlmohkbimnhecaaGreat.B
namespace Go.Proofs.YtlmohkbimnhecaaGreat.B
open Go.RowKit Go.Proofs.YtlmohkbimnhecaaGreat.Q Go.Proofs.YtlmohkbimnhecaaGreatW.PrintWords Go.Proofs.YtlmohkbimnhecaaGreatW.PrintLast Go.Proofs.YtlmohkbimnhecaaGreatW.PrintMore
theorem code_spec0 (P L R B g:Int) (b:Bool) (h:impl_IsField.f P L R B=some b):Ev (fun k=>spec_l05Code.f k P L R B g) (codeF P L R B g 0 b):=by
 unfold spec_l05Code.f codeF
 rw [isField_same,h,l01In_eq]
 cases b with
 |false=>exact evG rfl (evF (by simp) (evE (by simp) (evS _)))
 |true=>
  obtain ⟨p0,p1⟩:=field_facts P L R B h
  by_cases hg:0≤g∧g≤1
  ·refine evG rfl (evT rfl (evG rfl (evT (by simpa using hg) (evB (fair_spec P L R B g (by omega)) ?_))))
   cases fairB P L R B g with
   |true=>exact evT rfl (evE (by simp [hg]) (evS _))
   |false=>exact evF (by simp) (evE (by simp [hg]) (evS _))
  ·exact evG rfl (evT rfl (evG rfl (evF (by simpa using hg) (evE (by simp [hg]) (evS _)))))
theorem fr_small (a b:Nat) (P:Int) (hP:1≤P∧P≤8):fr a b P.toNat<12:=by
 have:=fr_le a b P.toNat
 omega
end Go.Proofs.YtlmohkbimnhecaaGreat.B
namespace Go.Proofs.YtlmohkbimnhecaaGreat.B
open Go.RowKit Go.Proofs.YtlmohkbimnhecaaGreat.Q Go.Proofs.YtlmohkbimnhecaaGreatW.PrintWords Go.Proofs.YtlmohkbimnhecaaGreatW.PrintLast Go.Proofs.YtlmohkbimnhecaaGreatW.PrintMore
theorem pow3_le (n:Nat) (h:n≤8):3 ^ n≤6561:=Nat.pow_le_pow_right (by decide) h
theorem bits_dg (a b:Nat) (i:Int) (ha:a<2 ^ 62) (hb:b<2 ^ 62) (h0:0≤i) (h1:i≤60) (x:Int) (hx:0≤x∧x≤1000000):
 wrap64 ((wrap64 ((wrap64 (x*3))+(Go.bits .and .i64 (shr .i64 (a:Int) i) 1)))+(wrap64 (2*(Go.bits .and .i64 (shr .i64 (b:Int) i) 1))))=x*3+(dg a b i.toNat:Int):=by
 rw [dig_bit a i ha h0 h1,dig_bit b i hb h0 h1]
 unfold dg
 cases a.testBit i.toNat<;>cases b.testBit i.toNat<;>(unfold wrap64;simp;omega)
theorem place_l (P L p:Int) (a b:Nat) (hP:1≤P∧P≤8) (hp:p=0∨p=1) (h:Two P.toNat a b) (d:Nat):∀ i:Int,0≤i→i+d=P →
 Ev (fun k=>spec_l05Place.l0 k p (pl3 a b i.toNat:Int) i P L a b) ((pl3 a b P.toNat:Int)*2+p):=by
 have hs:=h.small (by omega)
 have hq:∀ n,n≤8→pl3 a b n<6561:=fun n hn=>Nat.lt_of_lt_of_le (pl3_lt a b h.2.2 n) (pow3_le n hn)
 induction d with
 |zero=>
  intro i h0 h1
  have:=hq i.toNat (by omega)
  refine evSucc (fun k=>by rw [spec_l05Place.l0]) ?_
  refine evF (by omega) ?_
  obtain rfl:i=P:=by omega
  rw [wrap_in (x:=(pl3 a b i.toNat:Int)*2) (by omega) (by omega),wrap_in (by omega) (by omega)]
  exact evS _
 |succ d ih=>
  intro i h0 h1
  have:=hq i.toNat (by omega)
  refine evSucc (fun k=>by rw [spec_l05Place.l0]) ?_
  rw [u64_at i h0 (by omega),bits_dg a b i hs.1 hs.2 h0 (by omega) _ (by omega),wrap_in (x:=i+1) (by omega) (by omega)]
  refine evT (by omega) (evT h0 ?_)
  have e:(pl3 a b i.toNat:Int)*3+(dg a b i.toNat:Int)=((pl3 a b (i+1).toNat:Nat):Int):=by
   rw [show (i+1).toNat=i.toNat+1 by omega,show pl3 a b (i.toNat+1)=pl3 a b i.toNat*3+dg a b i.toNat from rfl]
   omega
  rw [e]
  exact ih (i+1) (by omega) (by omega)
theorem place_spec (P L p:Int) (a b:Nat) (hP:1≤P∧P≤8) (hp:p=0∨p=1) (h:Two P.toNat a b):Ev (fun k=>spec_l05Place.f k P L a b p) ((pl3 a b P.toNat:Int)*2+p):=by
 unfold spec_l05Place.f
 exact place_l P L p a b hP hp h P.toNat 0 (by omega) (by omega)
theorem table_l (P L R B:Int) (hP:1≤P∧P≤8) (d:Nat):∀ i:Int,0≤i→i+d=P→Ev (fun k=>spec_l05Table.l0 k ((2*3 ^ i.toNat:Nat):Int) i P L R B) (List.replicate (2*3 ^ P.toNat) 0):=by
 induction d with
 |zero=>
  intro i h0 h1
  obtain rfl:i=P:=by omega
  have:=pow3_le i.toNat (by omega)
  refine evSucc (fun k=>by rw [spec_l05Table.l0]) ?_
  refine evF (by omega) (evT (by omega) (evT (by rw [Int.toNat_natCast];omega) ?_))
  rw [Int.toNat_natCast]
  exact evS _
 |succ d ih=>
  intro i h0 h1
  have:=pow3_le i.toNat (by omega)
  refine evSucc (fun k=>by rw [spec_l05Table.l0]) ?_
  rw [wrap_in (x:=i+1) (by omega) (by omega),wrap_in (by omega) (by omega)]
  refine evT (by omega) ?_
  have e:((2*3 ^ i.toNat:Nat):Int)*3=((2*3 ^ (i+1).toNat:Nat):Int):=by
   rw [show (i+1).toNat=i.toNat+1 by omega,Nat.pow_succ]
   omega
  rw [e]
  exact ih (i+1) (by omega) (by omega)
theorem table_spec (P L R B:Int) (hP:1≤P∧P≤8):Ev (fun k=>spec_l05Table.f k P L R B) (List.replicate (2*3 ^ P.toNat) 0):=by
 unfold spec_l05Table.f
 exact table_l P L R B hP P.toNat 0 (by omega) (by omega)
def stOk (P:Int) (s:Nat×Nat×Int):Prop:=Two P.toNat s.1 s.2.1∧(s.2.2=0∨s.2.2=1)
def stPl (P:Int) (s:Nat×Nat×Int):Nat:=pl3 s.1 s.2.1 P.toNat*2+s.2.2.toNat
theorem stPl_inj (P:Int) (s s':Nat×Nat×Int) (h:stOk P s) (h':stOk P s') (e:stPl P s=stPl P s'):s=s':=by
 obtain ⟨a,b,p⟩:=s
 obtain ⟨c,d,q⟩:=s'
 have hp:=h.2
 have hq:=h'.2
 unfold stPl at e
 simp only at e hp hq
 obtain ⟨rfl,rfl⟩:=pl3_inj h.1 h'.1 (by simp only;omega)
 obtain rfl:p=q:=by omega
 rfl
theorem stPl_lt (P:Int) (s:Nat×Nat×Int) (h:stOk P s):stPl P s<2*3 ^ P.toNat:=by
 have:=pl3_lt s.1 s.2.1 h.1.2.2 P.toNat
 have hp:=h.2
 unfold stPl
 omega
def valW (P L g:Int) (s:Nat×Nat×Int):Int:=if W P L g s.1 s.2.1 s.2.2=true then 2 else 1
def TabW (P L g:Int) (t:List Int):Prop:=Tab (stOk P) (stPl P) (valW P L g) (2*3 ^ P.toNat) t
theorem TabW.new (P L g:Int):TabW P L g (List.replicate (2*3 ^ P.toNat) 0):=Tab.new (fun s h=>stPl_lt P s h)
theorem TabW.put {P L g:Int} {t:List Int} (h:TabW P L g t) (a b:Nat) (p:Int) (hs:stOk P (a,b,p)) (i:Int) (hi:i=(pl3 a b P.toNat:Int)*2+p) (v:Int) (hv:v=valW P L g (a,b,p)):TabW P L g (t.set i.toNat v):=by
 have hp:=hs.2
 simp only at hp
 have e:i.toNat=stPl P (a,b,p):=by unfold stPl;simp only;omega
 rw [e,hv]
 exact Tab.set h (stPl_inj P) _ hs
theorem TabW.at {P L g:Int} {t:List Int} (h:TabW P L g t) (a b:Nat) (p:Int) (hs:stOk P (a,b,p)):(pl3 a b P.toNat:Int)*2+p<t.length∧(rd t ((pl3 a b P.toNat:Int)*2+p)=0∨rd t ((pl3 a b P.toNat:Int)*2+p)=valW P L g (a,b,p)):=by
 have hp:=hs.2
 simp only at hp
 have e:((pl3 a b P.toNat:Int)*2+p).toNat=stPl P (a,b,p):=by unfold stPl;simp only;omega
 obtain ⟨h1,h2⟩:=h.2 _ hs
 refine ⟨by rw [h.1];omega,?_⟩
 unfold rd
 rw [e]
 exact h2
theorem drop_cons {l rest:List Int} {x:Int} {j:Nat} (h:l.drop j=x::rest):j<l.length∧rd l (j:Int)=x∧l.drop (j+1)=rest∧x∈l:=by
 have hj:j<l.length:=by
  rcases Nat.lt_or_ge j l.length with c|c
  ·exact c
  ·rw [List.drop_eq_nil_of_le c] at h;cases h
 have e:=List.drop_eq_getElem_cons hj
 rw [h] at e
 injection e with e1 e2
 refine ⟨hj,?_,e2.symm,?_⟩
 ·unfold rd
  rw [Int.toNat_natCast,List.getD_eq_getElem?_getD,List.getElem?_eq_getElem hj,e1]
  rfl
 ·rw [e1]
  exact List.getElem_mem hj
theorem wins_l (P L g:Int) (hP:1≤P∧P≤8) (a b:Nat) (p:Int) (hp:p=0∨p=1) (h:Two P.toNat a b)
 (ih:∀ i,i∈ptsL P L a b g p→∀ T,TabW P L g T→∃ T',Ev (fun k=>spec_l05Wins.f k P L (mvA p a i) (mvC p b i) g (1-p) T) (W P L g (mvA p a i) (mvC p b i) (1-p),T')∧TabW P L g T')
 (rest:List Int):∀ (j:Nat) (T:List Int) (out:Bool),(ptsL P L a b g p).drop j=rest→TabW P L g T→W P L g a b p=(out||rest.any fun i => !W P L g (mvA p a i) (mvC p b i) (1-p)) →
  ∃ T',Ev (fun k=>spec_l05Wins.l0 k g p T ((pl3 a b P.toNat:Int)*2+p) (ptsL P L a b g p) out j P L a b) (W P L g a b p,T')∧TabW P L g T':=by
 have hl:=ptsL_len P L a b g p hP.2
 have hs:=h.small (by omega)
 have fin:∀ (j:Nat) (T:List Int) (out:Bool),TabW P L g T→W P L g a b p=out→∃ T',Ev (fun k=>spec_l05Wins.j1 k g p T ((pl3 a b P.toNat:Int)*2+p) (ptsL P L a b g p) out j false P L a b) (W P L g a b p,T')∧TabW P L g T':=by
  intro j T out hT hW
  obtain ⟨h1,_⟩:=hT.at a b p ⟨h,hp⟩
  cases out with
  |true=>
   refine ⟨T.set ((pl3 a b P.toNat:Int)*2+p).toNat 2,?_,hT.put a b p ⟨h,hp⟩ _ rfl 2 (by simp [valW,hW])⟩
   refine evSucc (fun k=>by rw [spec_l05Wins.j1]) ?_
   refine evF (by simp) (evT (by omega) (evT h1 (evG rfl (evT rfl (evE ?_ (evS _))))))
   rw [List.set_set,hW]
  |false=>
   refine ⟨T.set ((pl3 a b P.toNat:Int)*2+p).toNat 1,?_,hT.put a b p ⟨h,hp⟩ _ rfl 1 (by simp [valW,hW])⟩
   refine evSucc (fun k=>by rw [spec_l05Wins.j1]) ?_
   refine evF (by simp) (evT (by omega) (evT h1 (evG rfl (evF (by simp) (evE ?_ (evS _))))))
   rw [hW]
 induction rest with
 |nil=>
  intro j T out hd hT hW
  simp only [List.any_nil,Bool.or_false] at hW
  obtain ⟨T',h1,h2⟩:=fin j T out hT hW
  refine ⟨T',?_,h2⟩
  have hj:=List.drop_eq_nil_iff.1 hd
  refine evSucc (fun k=>by rw [spec_l05Wins.l0]) ?_
  exact evF (by omega) h1
 |cons x rest ihr=>
  intro j T out hd hT hW
  obtain ⟨hj,hx,hd2,hmem⟩:=drop_cons hd
  cases out with
  |true=>
   obtain ⟨T',h1,h2⟩:=fin j T true hT (by simpa using hW)
   refine ⟨T',?_,h2⟩
   refine evSucc (fun k=>by rw [spec_l05Wins.l0]) ?_
   exact evT (by omega) h1
  |false=>
   obtain ⟨T1,h1,h2⟩:=ih x hmem T hT
   obtain ⟨T',h3,h4⟩:=ihr (j+1) T1 (!W P L g (mvA p a x) (mvC p b x) (1-p)) hd2 h2 (by simpa using hW)
   refine ⟨T',?_,h4⟩
   obtain ⟨i0,i1,i2,i3⟩:=ptsL_free P L g p a b hP h x hmem
   refine evSucc (fun k=>by rw [spec_l05Wins.l0]) ?_
   refine evT (by omega) ?_
   refine evSucc (fun k=>by rw [spec_l05Wins.j1]) ?_
   refine evT (by rfl) (evT (by omega) (evT (by omega) ?_))
   rw [hx,move_spec P L a b p x i0 (by omega),mvR_nat a p x hs.1 i0 (by omega),mvB_nat b p x hs.2 i0 (by omega),wrap_in (x:=1-p) (by omega) (by omega),wrap_in (x:=(j:Int)+1) (by omega) (by omega)]
   exact evG rfl (evB h1 h3)
theorem wins_spec (P L g:Int) (hP:1≤P∧P≤8) (m:Nat):∀ (a b:Nat) (p:Int) (T:List Int),(p=0∨p=1)→Two P.toNat a b→fr a b P.toNat<m→TabW P L g T →
 ∃ T',Ev (fun k=>spec_l05Wins.f k P L a b g p T) (W P L g a b p,T')∧TabW P L g T':=by
 induction m with
 |zero=>intro a b p T hp h hm;omega
 |succ m ihm=>
  intro a b p T hp h hm hT
  have hs:=h.small (by omega)
  have k62:(2:Nat) ^ 62=4611686018427387904:=by decide
  obtain ⟨h1,h2⟩:=hT.at a b p ⟨h,hp⟩
  have hpl:=place_spec P L p a b hP hp h
  by_cases hk:rd T ((pl3 a b P.toNat:Int)*2+p)>0
  ·refine ⟨T,?_,hT⟩
   refine evSucc (fun k=>by rw [spec_l05Wins.f]) ?_
   refine evB hpl (evT (by omega) (evT h1 (evT hk (evE ?_ (evS _)))))
   have hv:rd T ((pl3 a b P.toNat:Int)*2+p)=valW P L g (a,b,p):=by omega
   rw [hv]
   unfold valW
   cases W P L g a b p<;>rfl
  ·obtain ⟨T',h3,h4⟩:=wins_l P L g hP a b p hp h (fun i hi T hT=>by
    obtain ⟨i0,i1,i2,i3⟩:=ptsL_free P L g p a b hP h i hi
    obtain ⟨m1,m2⟩:=h.move p i i2 i3
    exact ihm _ _ _ T (by omega) m1 (by omega) hT) (ptsL P L a b g p) 0 T false rfl hT (by rw [W_eq P L g p a b hP h];simp)
   refine ⟨T',?_,h4⟩
   refine evSucc (fun k=>by rw [spec_l05Wins.f]) ?_
   exact evB hpl (evT (by omega) (evT h1 (evF hk (evB (points_spec P L a b g p hP (by omega) (by omega)) h3))))
end Go.Proofs.YtlmohkbimnhecaaGreat.B
namespace Go.Proofs.YtlmohkbimnhecaaGreat.B
open Go.RowKit Go.Proofs.YtlmohkbimnhecaaGreat.Q Go.Proofs.YtlmohkbimnhecaaGreatW.PrintWords Go.Proofs.YtlmohkbimnhecaaGreatW.PrintLast Go.Proofs.YtlmohkbimnhecaaGreatW.PrintMore
def bestL (P L g:Int) (a b:Nat) (p:Int):List Int:=(ptsL P L a b g p).filter fun i => !W P L g (mvA p a i) (mvC p b i) (1-p)
theorem bestL_len (P L g:Int) (a b:Nat) (p:Int) (hP:P≤8):(bestL P L g a b p).length≤8:=Nat.le_trans (List.length_filter_le _ _) (ptsL_len P L a b g p hP)
theorem best_impl (P L g:Int) (hP:1≤P∧P≤8) (hL:(Lit.int .i64 L).wf=true) (a b:Nat) (p:Int) (hp:p=0∨p=1) (h:Two P.toNat a b):Ev (fun k=>bestF k g P L 12 a b p) (bestL P L g a b p):=by
 have hs:=h.small (by omega)
 unfold bestF bestL
 refine evB (points_impl P L a b g p hP) (delP_ev _ _ _ (fun i hi=>?_))
 obtain ⟨h0,h1,h2,h3⟩:=ptsL_free P L g p a b hP h i hi
 obtain ⟨m1,m2⟩:=h.move p i h2 h3
 unfold lossP
 rw [coloured_impl P L a b p i h0,mvR_nat a p i hs.1 h0 (by omega),mvB_nat b p i hs.2 h0 (by omega),wrap_in (x:=1-p) (by omega) (by omega)]
 exact evG rfl (wins_impl P L g hP hL 12 (mvA p a i) (mvC p b i) (1-p) (by omega) m1 (fr_small _ _ P hP))
theorem best_l (P L g:Int) (hP:1≤P∧P≤8) (a b:Nat) (p:Int) (hp:p=0∨p=1) (h:Two P.toNat a b) (rest:List Int):∀ (j:Nat) (T acc:List Int),(ptsL P L a b g p).drop j=rest→TabW P L g T→acc.length≤j →
 ∃ T',Ev (fun k=>spec_l05Best.l0 k g p T (ptsL P L a b g p) acc j P L a b) (acc++rest.filter (fun i => !W P L g (mvA p a i) (mvC p b i) (1-p)),T')∧TabW P L g T':=by
 have hl:=ptsL_len P L a b g p hP.2
 have hs:=h.small (by omega)
 induction rest with
 |nil=>
  intro j T acc hd hT ha
  have hj:=List.drop_eq_nil_iff.1 hd
  refine ⟨T,?_,hT⟩
  refine evSucc (fun k=>by rw [spec_l05Best.l0]) ?_
  exact evF (by omega) (evE (by simp) (evS _))
 |cons x rest ihr=>
  intro j T acc hd hT ha
  obtain ⟨hj,hx,hd2,hmem⟩:=drop_cons hd
  obtain ⟨i0,i1,i2,i3⟩:=ptsL_free P L g p a b hP h x hmem
  obtain ⟨m1,m2⟩:=h.move p x i2 i3
  obtain ⟨T1,h1,h2⟩:=wins_spec P L g hP 12 (mvA p a x) (mvC p b x) (1-p) T (by omega) m1 (fr_small _ _ P hP) hT
  cases hw:W P L g (mvA p a x) (mvC p b x) (1-p) with
  |true=>
   obtain ⟨T',h3,h4⟩:=ihr (j+1) T1 acc hd2 h2 (by omega)
   refine ⟨T',?_,h4⟩
   refine evSucc (fun k=>by rw [spec_l05Best.l0]) ?_
   rw [hx,move_spec P L a b p x i0 (by omega),mvR_nat a p x hs.1 i0 (by omega),mvB_nat b p x hs.2 i0 (by omega),wrap_in (x:=1-p) (by omega) (by omega),wrap_in (x:=(j:Int)+1) (by omega) (by omega)]
   rw [hw] at h1
   exact evT (by omega) (evT (by omega) (evG rfl (evB h1 (evT rfl (evE (by simp [hw]) h3)))))
  |false=>
   obtain ⟨T',h3,h4⟩:=ihr (j+1) T1 (acc++[x]) hd2 h2 (by simp;omega)
   refine ⟨T',?_,h4⟩
   refine evSucc (fun k=>by rw [spec_l05Best.l0]) ?_
   rw [hx,move_spec P L a b p x i0 (by omega),mvR_nat a p x hs.1 i0 (by omega),mvB_nat b p x hs.2 i0 (by omega),wrap_in (x:=1-p) (by omega) (by omega),wrap_in (x:=(j:Int)+1) (by omega) (by omega)]
   rw [hw] at h1
   exact evT (by omega) (evT (by omega) (evG rfl (evB h1 (evF (by simp) (evT (by omega) (evE (by simp [hw]) h3))))))
theorem best_spec (P L g:Int) (hP:1≤P∧P≤8) (a b:Nat) (p:Int) (hp:p=0∨p=1) (h:Two P.toNat a b) (T:List Int) (hT:TabW P L g T):
 ∃ T',Ev (fun k=>spec_l05Best.f k P L a b g p T) (bestL P L g a b p,T')∧TabW P L g T':=by
 have hs:=h.small (by omega)
 have k62:(2:Nat) ^ 62=4611686018427387904:=by decide
 obtain ⟨T',h3,h4⟩:=best_l P L g hP a b p hp h (ptsL P L a b g p) 0 T [] rfl hT (by simp)
 refine ⟨T',?_,h4⟩
 unfold spec_l05Best.f
 exact evB (points_spec P L a b g p hP (by omega) (by omega)) (evE (by simp [bestL]) h3)
end Go.Proofs.YtlmohkbimnhecaaGreat.B
namespace Go.Proofs.YtlmohkbimnhecaaGreat.B
open Go.RowKit Go.Proofs.YtlmohkbimnhecaaGreat.Q Go.Proofs.YtlmohkbimnhecaaGreatW.PrintWords Go.Proofs.YtlmohkbimnhecaaGreatW.PrintLast Go.Proofs.YtlmohkbimnhecaaGreatW.PrintMore
def playM (P L g:Int):Nat→Nat→Nat→Int→List Int
 |0,_,_,_=>[]
 |d+1,a,b,p=>match bestL P L g a b p++ptsL P L a b g p with
  |[]=>[]
  |x::_=>x::playM P L g d (mvA p a x) (mvC p b x) (1-p)
theorem playM_cons {P L g:Int} (d:Nat) {a b:Nat} {p x:Int} {q:List Int} (e:bestL P L g a b p++ptsL P L a b g p=x::q):playM P L g (d+1) a b p=x::playM P L g d (mvA p a x) (mvC p b x) (1-p):=by
 simp only [playM]
 rw [e]
theorem playM_nil {P L g:Int} (d:Nat) {a b:Nat} {p:Int} (e:bestL P L g a b p++ptsL P L a b g p=[]):playM P L g (d+1) a b p=[]:=by
 simp only [playM]
 rw [e]
theorem playM_len (P L g:Int) (d:Nat):∀ (a b:Nat) (p:Int),(playM P L g d a b p).length≤d:=by
 induction d with
 |zero=>intro a b p;simp [playM]
 |succ d ih=>
  intro a b p
  simp only [playM]
  split
  ·simp
  ·rename_i x _ _
   have:=ih (mvA p a x) (mvC p b x) (1-p)
   simp
   omega
section
variable {P L g:Int} (hP:1≤P∧P≤8)
include hP
theorem head_free (a b:Nat) (p:Int) (h:Two P.toNat a b) (x:Int) (q:List Int) (e:bestL P L g a b p++ptsL P L a b g p=x::q):0≤x∧x<P∧x.toNat<P.toNat∧dg a b x.toNat=0:=by
 have hm:x∈bestL P L g a b p++ptsL P L a b g p:=by rw [e];exact List.mem_cons_self
 rcases List.mem_append.1 hm with h1|h1
 ·exact ptsL_free P L g p a b hP h x (List.mem_filter.1 h1).1
 ·exact ptsL_free P L g p a b hP h x h1
theorem play_impl (hL:(Lit.int .i64 L).wf=true) (m:Nat):∀ (a b:Nat) (p:Int) (d:Nat) (acc:List Int),(p=0∨p=1)→Two P.toNat a b→fr a b P.toNat≤m→m<d→acc.length+m≤20→Ev (fun k=>playL k g P L d a b p acc) (acc++playM P L g (m+1) a b p):=by
 induction m with
 |zero=>
  intro a b p d acc hp h hm hd hacc
  obtain ⟨d,rfl⟩:∃ n,d=n+1:=⟨d-1,by omega⟩
  have hb:=bestL_len P L g a b p hP.2
  have hl:=ptsL_len P L a b g p hP.2
  have he:bestL P L g a b p++ptsL P L a b g p=[]:=by
   cases e:bestL P L g a b p++ptsL P L a b g p with
   |nil=>rfl
   |cons x q=>
    exfalso
    obtain ⟨h0,h1,h2,h3⟩:=head_free hP a b p h x q e
    have:=fr_pos P.toNat a b x.toNat h2 h3
    omega
  simp only [playL]
  refine evB (best_impl P L g hP hL a b p hp h) (evB (points_impl P L a b g p hP) (evT ⟨by omega,by omega,by omega⟩ (evT (by rw [he];rfl) (evE ?_ (evS _)))))
  simp only [playM]
  rw [he]
  simp
 |succ m ih=>
  intro a b p d acc hp h hm hd hacc
  obtain ⟨d,rfl⟩:∃ n,d=n+1:=⟨d-1,by omega⟩
  have hb:=bestL_len P L g a b p hP.2
  have hl:=ptsL_len P L a b g p hP.2
  have hs:=h.small (by omega)
  simp only [playL]
  refine evB (best_impl P L g hP hL a b p hp h) (evB (points_impl P L a b g p hP) (evT ⟨by omega,by omega,by omega⟩ ?_))
  cases e:bestL P L g a b p++ptsL P L a b g p with
  |nil=>exact evT rfl (evE (by rw [playM_nil (m+1) e];simp) (evS _))
  |cons x q=>
   obtain ⟨h0,h1,h2,h3⟩:=head_free hP a b p h x q e
   obtain ⟨m1,m2⟩:=h.move p x h2 h3
   have h5:=ih (mvA p a x) (mvC p b x) (1-p) d (acc++[x]) (by omega) m1 (by omega) (by omega) (by simp;omega)
   refine evF (by simp) ?_
   rw [show rd (x::q) 0=x from rfl,coloured_impl P L a b p x h0,mvR_nat a p x hs.1 h0 (by omega),mvB_nat b p x hs.2 h0 (by omega),wrap_in (x:=1-p) (by omega) (by omega)]
   exact evG rfl (evE (by rw [playM_cons (m+1) e];simp) h5)
theorem play_spec (m:Nat):∀ (a b:Nat) (p:Int) (acc T:List Int),(p=0∨p=1)→Two P.toNat a b→fr a b P.toNat≤m→acc.length+m≤20→TabW P L g T→Ev (fun k=>spec_PlayField.l0 k g p T acc P L a b) (acc++playM P L g (m+1) a b p,0):=by
 induction m with
 |zero=>
  intro a b p acc T hp h hm hacc hT
  have hs:=h.small (by omega)
  have k62:(2:Nat) ^ 62=4611686018427387904:=by decide
  have he:bestL P L g a b p++ptsL P L a b g p=[]:=by
   cases e:bestL P L g a b p++ptsL P L a b g p with
   |nil=>rfl
   |cons x q=>
    exfalso
    obtain ⟨h0,h1,h2,h3⟩:=head_free hP a b p h x q e
    have:=fr_pos P.toNat a b x.toNat h2 h3
    omega
  obtain ⟨e1,e2⟩:=List.append_eq_nil_iff.1 he
  obtain ⟨T',h3,h4⟩:=best_spec P L g hP a b p hp h T hT
  have hpt:=points_spec P L a b g p hP (by omega) (by omega)
  refine evSucc (fun k=>by rw [spec_PlayField.l0]) ?_
  rw [e1] at h3
  rw [e2] at hpt
  refine evB h3 (evT rfl (evB hpt (evT rfl (evE ?_ (evS _)))))
  simp only [playM]
  rw [he]
  simp
 |succ m ih=>
  intro a b p acc T hp h hm hacc hT
  have hs:=h.small (by omega)
  have k62:(2:Nat) ^ 62=4611686018427387904:=by decide
  obtain ⟨T',h3,h4⟩:=best_spec P L g hP a b p hp h T hT
  have hpt:=points_spec P L a b g p hP (by omega) (by omega)
  have hgo:∀ (x:Int) (q:List Int),bestL P L g a b p++ptsL P L a b g p=x::q→Ev (fun k=>(spec_l05Move.f P L a b p x).bind fun bt=>spec_PlayField.l0 k g (wrap64 (1-p)) T' (acc++[x]) bt.1 bt.2.1 bt.2.2.1 bt.2.2.2) (acc++playM P L g (m+1+1) a b p,0):=by
   intro x q e
   obtain ⟨h0,h1,h2,h3⟩:=head_free hP a b p h x q e
   obtain ⟨m1,m2⟩:=h.move p x h2 h3
   have h5:=ih (mvA p a x) (mvC p b x) (1-p) (acc++[x]) T' (by omega) m1 (by omega) (by simp;omega) h4
   rw [move_spec P L a b p x h0 (by omega),mvR_nat a p x hs.1 h0 (by omega),mvB_nat b p x hs.2 h0 (by omega),wrap_in (x:=1-p) (by omega) (by omega)]
   refine evG rfl (evE ?_ h5)
   rw [playM_cons (m+1) e]
   simp
  refine evSucc (fun k=>by rw [spec_PlayField.l0]) ?_
  cases e1:bestL P L g a b p with
  |nil=>
   rw [e1] at h3
   cases e2:ptsL P L a b g p with
   |nil=>
    rw [e2] at hpt
    refine evB h3 (evT rfl (evB hpt (evT rfl (evE ?_ (evS _)))))
    rw [playM_nil (m+1) (by rw [e1,e2];rfl)]
    simp
   |cons x q=>
    have h6:=hgo x q (by rw [e1,e2];rfl)
    rw [e2] at hpt
    exact evB h3 (evT rfl (evB hpt (evF (by simp;omega) (evT (by simp) (evT (by omega) h6)))))
  |cons x q=>
   have h6:=hgo x (q++ptsL P L a b g p) (by rw [e1];rfl)
   rw [e1] at h3
   exact evB h3 (evF (by simp;omega) (evT (by simp) (evT (by omega) h6)))
end
end Go.Proofs.YtlmohkbimnhecaaGreat.B
namespace Go.Proofs.YtlmohkbimnhecaaGreat.B
open Go.RowKit Go.Proofs.YtlmohkbimnhecaaGreat.Q Go.Proofs.YtlmohkbimnhecaaGreatW.PrintWords Go.Proofs.YtlmohkbimnhecaaGreatW.PrintLast Go.Proofs.YtlmohkbimnhecaaGreatW.PrintMore
def leftP (f:Int→Int×Int):List Int→Bool→Int→Int→Int×Int
 |[],_,lo,hi=>(lo,hi)
 |x::xs,first,lo,hi=>leftP f xs false (if first=true then (f x).1+1 else if (f x).1+1<lo then (f x).1+1 else lo) (mx hi ((f x).2+1))
theorem leftP_congr {f g:Int→Int×Int} (l:List Int):(∀ x∈l,f x=g x)→∀ (b:Bool) (lo hi:Int),leftP f l b lo hi=leftP g l b lo hi:=by
 induction l with
 |nil=>intro h b lo hi;rfl
 |cons x l ih=>
  intro h b lo hi
  simp only [leftP]
  rw [h x List.mem_cons_self]
  exact ih (fun y hy=>h y (List.mem_cons_of_mem _ hy)) _ _ _
theorem leftP_range {f:Int→Int×Int} (B:Int) (l:List Int):(∀ x∈l,(0≤(f x).1∧(f x).1+1≤B)∧(0≤(f x).2∧(f x).2+1≤B))→∀ (b:Bool) (lo hi:Int),0≤lo∧lo≤B→0≤hi∧hi≤B→(0≤(leftP f l b lo hi).1∧(leftP f l b lo hi).1≤B)∧(0≤(leftP f l b lo hi).2∧(leftP f l b lo hi).2≤B):=by
 induction l with
 |nil=>intro h b lo hi h1 h2;exact ⟨h1,h2⟩
 |cons x l ih=>
  intro h b lo hi h1 h2
  have hx:=h x List.mem_cons_self
  simp only [leftP]
  refine ih (fun y hy=>h y (List.mem_cons_of_mem _ hy)) _ _ _ ?_ ?_
  ·split
   ·omega
   ·split<;>omega
  ·unfold mx
   split<;>omega
def lfN (P L g:Int):Nat→Nat→Nat→Int→Int×Int
 |0,_,_,_=>(0,0)
 |d+1,a,b,p=>leftP (fun i=>lfN P L g d (mvA p a i) (mvC p b i) (1-p)) (ptsL P L a b g p) true 0 0
def lf (P L g:Int) (a b:Nat) (p:Int):Int×Int:=lfN P L g (fr a b P.toNat+1) a b p
section
variable {P L g:Int} (hP:1≤P∧P≤8)
include hP
theorem lf_eq (a b:Nat) (p:Int) (h:Two P.toNat a b):lf P L g a b p=leftP (fun i=>lf P L g (mvA p a i) (mvC p b i) (1-p)) (ptsL P L a b g p) true 0 0:=by
 unfold lf
 rw [lfN]
 refine leftP_congr _ (fun i hi=>?_) _ _ _
 obtain ⟨_,_,h2,h3⟩:=ptsL_free P L g p a b hP h i hi
 rw [(h.move p i h2 h3).2]
theorem lf_range (m:Nat):∀ (a b:Nat) (p:Int),Two P.toNat a b→fr a b P.toNat<m→(0≤(lf P L g a b p).1∧(lf P L g a b p).1≤fr a b P.toNat)∧(0≤(lf P L g a b p).2∧(lf P L g a b p).2≤fr a b P.toNat):=by
 induction m with
 |zero=>intro a b p h hm;omega
 |succ m ih=>
  intro a b p h hm
  rw [lf_eq hP a b p h]
  refine leftP_range (fr a b P.toNat:Int) _ (fun i hi=>?_) _ _ _ (by omega) (by omega)
  obtain ⟨_,_,h2,h3⟩:=ptsL_free P L g p a b hP h i hi
  obtain ⟨m1,m2⟩:=h.move p i h2 h3
  have:=ih (mvA p a i) (mvC p b i) (1-p) m1 (by omega)
  omega
theorem lf_small (a b:Nat) (p:Int) (h:Two P.toNat a b):(0≤(lf P L g a b p).1∧(lf P L g a b p).1≤8)∧(0≤(lf P L g a b p).2∧(lf P L g a b p).2≤8):=by
 have h1:=lf_range (L:=L) (g:=g) hP (fr a b P.toNat+1) a b p h (by omega)
 have h2:=fr_le a b P.toNat
 omega
omit hP in
theorem leftL_ev (f:Nat→Int→Option (Int×Int)) (q:Int→Int×Int) (l:List Int):(∀ x∈l,Ev (fun k=>f k x) (q x))→(∀ x∈l,(0≤(q x).1∧(q x).1≤8)∧(0≤(q x).2∧(q x).2≤8))→∀ (b:Bool) (lo hi:Int),Ev (fun k=>leftL (f k) l b lo hi) (leftP q l b lo hi):=by
 induction l with
 |nil=>intro h hr b lo hi;exact evS _
 |cons x l ih=>
  intro h hr b lo hi
  have hx:=hr x List.mem_cons_self
  simp only [leftL,leftP]
  refine evB (h x List.mem_cons_self) ?_
  rw [wrap_in (x:=(q x).1+1) (by omega) (by omega),wrap_in (x:=(q x).2+1) (by omega) (by omega)]
  exact ih (fun y hy=>h y (List.mem_cons_of_mem _ hy)) (fun y hy=>hr y (List.mem_cons_of_mem _ hy)) _ _ _
theorem left_impl (hL:(Lit.int .i64 L).wf=true) (d:Nat):∀ (a b:Nat) (p:Int),(p=0∨p=1)→Two P.toNat a b→fr a b P.toNat<d→Ev (fun k=>leftF k g P L d a b p) (lf P L g a b p):=by
 induction d with
 |zero=>intro a b p hp h hd;omega
 |succ d ih=>
  intro a b p hp h hd
  have k62:(2:Nat) ^ 62=4611686018427387904:=by decide
  have hs:=h.small (by omega)
  rw [lf_eq hP a b p h]
  simp only [leftF]
  have hp8:=Nat.pow_le_pow_right (show 0<2 by decide) (show P.toNat≤8 by omega)
  have h1:=h.1
  have h2:=h.2.1
  refine evT ⟨wf_small P (by omega) (by omega),hL,by omega,by omega,by omega⟩ ?_
  refine evB (points_impl P L a b g p hP) (evT (by have:=ptsL_len P L a b g p hP.2;omega) ?_)
  refine leftL_ev _ _ _ (fun i hi=>?_) (fun i hi=>?_) _ _ _
  ·obtain ⟨h0,h1,h2,h3⟩:=ptsL_free P L g p a b hP h i hi
   obtain ⟨m1,m2⟩:=h.move p i h2 h3
   rw [coloured_impl P L a b p i h0,mvR_nat a p i hs.1 h0 (by omega),mvB_nat b p i hs.2 h0 (by omega),wrap_in (x:=1-p) (by omega) (by omega)]
   exact evG rfl (ih (mvA p a i) (mvC p b i) (1-p) (by omega) m1 (by omega))
  ·obtain ⟨h0,h1,h2,h3⟩:=ptsL_free P L g p a b hP h i hi
   obtain ⟨m1,m2⟩:=h.move p i h2 h3
   exact lf_small hP _ _ _ m1
end
def valL (P L g:Int) (s:Nat×Nat×Int):Int:=(lf P L g s.1 s.2.1 s.2.2).2*9+(lf P L g s.1 s.2.1 s.2.2).1+1
def TabL (P L g:Int) (t:List Int):Prop:=Tab (stOk P) (stPl P) (valL P L g) (2*3 ^ P.toNat) t
theorem TabL.new (P L g:Int):TabL P L g (List.replicate (2*3 ^ P.toNat) 0):=Tab.new (fun s h=>stPl_lt P s h)
theorem TabL.put {P L g:Int} {t:List Int} (h:TabL P L g t) (a b:Nat) (p:Int) (hs:stOk P (a,b,p)) (i:Int) (hi:i=(pl3 a b P.toNat:Int)*2+p) (v:Int) (hv:v=valL P L g (a,b,p)):TabL P L g (t.set i.toNat v):=by
 have hp:=hs.2
 simp only at hp
 have e:i.toNat=stPl P (a,b,p):=by unfold stPl;simp only;omega
 rw [e,hv]
 exact Tab.set h (stPl_inj P) _ hs
theorem TabL.at {P L g:Int} {t:List Int} (h:TabL P L g t) (a b:Nat) (p:Int) (hs:stOk P (a,b,p)):(pl3 a b P.toNat:Int)*2+p<t.length∧(rd t ((pl3 a b P.toNat:Int)*2+p)=0∨rd t ((pl3 a b P.toNat:Int)*2+p)=valL P L g (a,b,p)):=by
 have hp:=hs.2
 simp only at hp
 have e:((pl3 a b P.toNat:Int)*2+p).toNat=stPl P (a,b,p):=by unfold stPl;simp only;omega
 obtain ⟨h1,h2⟩:=h.2 _ hs
 refine ⟨by rw [h.1];omega,?_⟩
 unfold rd
 rw [e]
 exact h2
theorem i8_at (x:Int) (h0:0≤x) (h1:x≤100):IntKind.i8.wrap x=x:=by
 simp [IntKind.wrap,IntKind.bits,IntKind.signed]
 omega
section
variable {P L g:Int} (hP:1≤P∧P≤8)
include hP
theorem left_l (a b:Nat) (p:Int) (hp:p=0∨p=1) (h:Two P.toNat a b)
 (ih:∀ i,i∈ptsL P L a b g p→∀ T,TabL P L g T→∃ T',Ev (fun k=>spec_l05Left.f k P L (mvA p a i) (mvC p b i) g (1-p) T) ((lf P L g (mvA p a i) (mvC p b i) (1-p)).1,(lf P L g (mvA p a i) (mvC p b i) (1-p)).2,T')∧TabL P L g T')
 (rest:List Int):∀ (j:Nat) (T:List Int) (lo hi:Int),(ptsL P L a b g p).drop j=rest→TabL P L g T→leftP (fun i=>lf P L g (mvA p a i) (mvC p b i) (1-p)) rest (decide (j=0)) lo hi=lf P L g a b p →
  ∃ T',Ev (fun k=>spec_l05Left.l0 k g p T ((pl3 a b P.toNat:Int)*2+p) (ptsL P L a b g p) lo hi j P L a b) ((lf P L g a b p).1,(lf P L g a b p).2,T')∧TabL P L g T':=by
 have hl:=ptsL_len P L a b g p hP.2
 have hs:=h.small (by omega)
 have hr:=lf_small (L:=L) (g:=g) hP a b p h
 induction rest with
 |nil=>
  intro j T lo hi hd hT hv
  obtain ⟨t1,_⟩:=hT.at a b p ⟨h,hp⟩
  have hj:=List.drop_eq_nil_iff.1 hd
  simp only [leftP] at hv
  have hput:=hT.put a b p ⟨h,hp⟩ _ rfl (valL P L g (a,b,p)) rfl
  unfold valL at hput
  rw [← hv] at hr hput ⊢
  simp only at hr hput ⊢
  refine ⟨_,?_,hput⟩
  refine evSucc (fun k=>by rw [spec_l05Left.l0]) ?_
  refine evF (by omega) (evT (by omega) (evT t1 ?_))
  rw [wrap_in (x:=hi*9) (by omega) (by omega),wrap_in (x:=hi*9+lo) (by omega) (by omega),wrap_in (x:=hi*9+lo+1) (by omega) (by omega),i8_at _ (by omega) (by omega)]
  exact evS _
 |cons x rest ihr=>
  intro j T lo hi hd hT hv
  obtain ⟨hj,hx,hd2,hmem⟩:=drop_cons hd
  obtain ⟨i0,i1,i2,i3⟩:=ptsL_free P L g p a b hP h x hmem
  obtain ⟨m1,m2⟩:=h.move p x i2 i3
  have hrx:=lf_small (L:=L) (g:=g) hP (mvA p a x) (mvC p b x) (1-p) m1
  obtain ⟨T1,h1,h2⟩:=ih x hmem T hT
  simp only [leftP] at hv
  generalize lf P L g (mvA p a x) (mvC p b x) (1-p)=v at h1 hrx hv
  have hgo:∀ lo2:Int,lo2=(if decide (j=0)=true then v.1+1 else if v.1+1<lo then v.1+1 else lo)→∃ T',Ev (fun k=>spec_l05Left.l0 k g p T1 ((pl3 a b P.toNat:Int)*2+p) (ptsL P L a b g p) lo2 (mx hi (v.2+1)) ((j:Int)+1) P L a b) ((lf P L g a b p).1,(lf P L g a b p).2,T')∧TabL P L g T':=fun lo2 e=>by
   have:=ihr (j+1) T1 lo2 (mx hi (v.2+1)) hd2 h2 (by rw [e];simpa using hv)
   simpa using this
  clear hv ihr
  generalize lf P L g a b p=u at hgo ⊢
  by_cases hj0:j=0
  ·obtain ⟨T',h3,h4⟩:=hgo (v.1+1) (by rw [if_pos (decide_eq_true hj0)])
   refine ⟨T',?_,h4⟩
   refine evSucc (fun k=>by rw [spec_l05Left.l0]) ?_
   refine evT (by omega) (evT (by omega) ?_)
   rw [hx,move_spec P L a b p x i0 (by omega),mvR_nat a p x hs.1 i0 (by omega),mvB_nat b p x hs.2 i0 (by omega),wrap_in (x:=1-p) (by omega) (by omega),wrap_in (x:=(j:Int)+1) (by omega) (by omega)]
   refine evG rfl (evB h1 ?_)
   simp only
   rw [wrap_in (x:=v.1+1) (by omega) (by omega),wrap_in (x:=v.2+1) (by omega) (by omega)]
   exact evT (by omega) h3
  ·by_cases hlt:v.1+1<lo
   ·obtain ⟨T',h3,h4⟩:=hgo (v.1+1) (by rw [if_neg (by simpa using hj0),if_pos hlt])
    refine ⟨T',?_,h4⟩
    refine evSucc (fun k=>by rw [spec_l05Left.l0]) ?_
    refine evT (by omega) (evT (by omega) ?_)
    rw [hx,move_spec P L a b p x i0 (by omega),mvR_nat a p x hs.1 i0 (by omega),mvB_nat b p x hs.2 i0 (by omega),wrap_in (x:=1-p) (by omega) (by omega),wrap_in (x:=(j:Int)+1) (by omega) (by omega)]
    refine evG rfl (evB h1 ?_)
    simp only
    rw [wrap_in (x:=v.1+1) (by omega) (by omega),wrap_in (x:=v.2+1) (by omega) (by omega)]
    exact evF (by omega) (evT hlt h3)
   ·obtain ⟨T',h3,h4⟩:=hgo lo (by rw [if_neg (by simpa using hj0),if_neg hlt])
    refine ⟨T',?_,h4⟩
    refine evSucc (fun k=>by rw [spec_l05Left.l0]) ?_
    refine evT (by omega) (evT (by omega) ?_)
    rw [hx,move_spec P L a b p x i0 (by omega),mvR_nat a p x hs.1 i0 (by omega),mvB_nat b p x hs.2 i0 (by omega),wrap_in (x:=1-p) (by omega) (by omega),wrap_in (x:=(j:Int)+1) (by omega) (by omega)]
    refine evG rfl (evB h1 ?_)
    simp only
    rw [wrap_in (x:=v.1+1) (by omega) (by omega),wrap_in (x:=v.2+1) (by omega) (by omega)]
    exact evF (by omega) (evF hlt h3)
theorem left_spec (m:Nat):∀ (a b:Nat) (p:Int) (T:List Int),(p=0∨p=1)→Two P.toNat a b→fr a b P.toNat<m→TabL P L g T →
 ∃ T',Ev (fun k=>spec_l05Left.f k P L a b g p T) ((lf P L g a b p).1,(lf P L g a b p).2,T')∧TabL P L g T':=by
 induction m with
 |zero=>intro a b p T hp h hm;omega
 |succ m ihm=>
  intro a b p T hp h hm hT
  have hs:=h.small (by omega)
  have k62:(2:Nat) ^ 62=4611686018427387904:=by decide
  obtain ⟨h1,h2⟩:=hT.at a b p ⟨h,hp⟩
  have hpl:=place_spec P L p a b hP hp h
  have hr:=lf_small (L:=L) (g:=g) hP a b p h
  by_cases hk:rd T ((pl3 a b P.toNat:Int)*2+p)>0
  ·refine ⟨T,?_,hT⟩
   have hv:rd T ((pl3 a b P.toNat:Int)*2+p)=valL P L g (a,b,p):=by
    rcases h2 with h2|h2
    ·exact absurd h2 (by omega)
    ·exact h2
   unfold valL at hv
   simp only at hv
   refine evSucc (fun k=>by rw [spec_l05Left.f]) ?_
   refine evB hpl (evT (by omega) (evT h1 (evT hk (evE ?_ (evS _)))))
   rw [hv]
   generalize (lf P L g a b p).1=lo at hr ⊢
   generalize (lf P L g a b p).2=hi at hr ⊢
   rw [wrap_in (x:=hi*9+lo+1) (by omega) (by omega),show hi*9+lo+1-1=hi*9+lo by omega,wrap_in (x:=hi*9+lo) (by omega) (by omega),Int.tmod_eq_emod_of_nonneg (by omega),Int.tdiv_eq_ediv_of_nonneg (by omega),wrap_in (by omega) (by omega)]
   rw [show (hi*9+lo)%9=lo by omega,show (hi*9+lo)/9=hi by omega]
  ·obtain ⟨T',h3,h4⟩:=left_l hP a b p hp h (fun i hi T hT=>by
    obtain ⟨i0,i1,i2,i3⟩:=ptsL_free P L g p a b hP h i hi
    obtain ⟨m1,m2⟩:=h.move p i i2 i3
    exact ihm _ _ _ T (by omega) m1 (by omega) hT) (ptsL P L a b g p) 0 T 0 0 rfl hT (by rw [lf_eq hP a b p h];rfl)
   refine ⟨T',?_,h4⟩
   refine evSucc (fun k=>by rw [spec_l05Left.f]) ?_
   exact evB hpl (evT (by omega) (evT h1 (evF hk (evB (points_spec P L a b g p hP (by omega) (by omega)) h3))))
end
end Go.Proofs.YtlmohkbimnhecaaGreat.B
namespace Go.Proofs.YtlmohkbimnhecaaGreat.B
open Go.RowKit Go.Proofs.YtlmohkbimnhecaaGreat.Q Go.Proofs.YtlmohkbimnhecaaGreatW.PrintWords Go.Proofs.YtlmohkbimnhecaaGreatW.PrintLast Go.Proofs.YtlmohkbimnhecaaGreatW.PrintMore
theorem rd_set (l:List Int) (a x v:Int) (h0:0≤a) (h1:a<l.length) (h2:0≤x):rd (l.set a.toNat v) x=if x=a then v else rd l x:=by
 unfold rd
 rw [List.getD_eq_getElem?_getD,List.getD_eq_getElem?_getD]
 by_cases e:x=a
 ·subst e
  rw [if_pos rfl,List.getElem?_set_self (by omega)]
  rfl
 ·rw [if_neg e,List.getElem?_set_ne (by omega)]
def Inv (P:Int) (p:List Int):Prop:=(p.length:Int)=P∧∀ x:Int,0≤x→x<P→rd p x = -1∨((0≤rd p x∧rd p x<P)∧rd p x≠x∧rd p (rd p x)=x)
def own (p:List Int) (i j:Int):List Int:=(p.set i.toNat j).set j.toNat i
theorem rd_own {P:Int} {p:List Int} (h:Inv P p) (i j x:Int) (hi:0≤i∧i<P) (hj:0≤j∧j<P) (hx:0≤x):rd (own p i j) x=if x=j then i else if x=i then j else rd p x:=by
 have hl:=h.1
 unfold own
 rw [rd_set _ j x i hj.1 (by simp;omega) hx,rd_set _ i x j hi.1 (by omega) hx]
theorem Inv.own {P:Int} {p:List Int} (h:Inv P p) (i j:Int) (hi:0≤i∧i<P) (hj:0≤j∧j<P) (hne:i≠j) (hpi:rd p i = -1) (hpj:rd p j = -1):Inv P (own p i j):=by
 refine ⟨by have:=h.1;simp [B.own];omega,fun x h0 h1=>?_⟩
 rw [rd_own h i j x hi hj h0]
 by_cases e1:x=j
 ·subst e1
  rw [if_pos rfl]
  refine .inr ⟨hi,hne,?_⟩
  rw [rd_own h i x i hi hj hi.1,if_neg hne,if_pos rfl]
 ·rw [if_neg e1]
  by_cases e2:x=i
  ·subst e2
   rw [if_pos rfl]
   refine .inr ⟨hj,fun e=>hne e.symm,?_⟩
   rw [rd_own h x j j hi hj hj.1,if_pos rfl]
  ·rw [if_neg e2]
   rcases h.2 x h0 h1 with c|⟨c1,c2,c3⟩
   ·exact .inl c
   ·refine .inr ⟨c1,c2,?_⟩
    have e3:rd p x≠j:=fun e=>by rw [e,hpj] at c3;omega
    have e4:rd p x≠i:=fun e=>by rw [e,hpi] at c3;omega
    rw [rd_own h i j _ hi hj c1.1,if_neg e3,if_neg e4]
    exact c3
def mtR (L:Int) (p:List Int) (x y:Int):Bool:=decide (rd p y<0)||(jn L x y==jn L (rd p x) (rd p y))
def mtX (L:Int) (p:List Int) (x:Int):Bool:=decide (rd p x<0)||(seg 0 x.toNat).all (mtR L p x)
def mt (P L:Int) (p:List Int):Bool:=(seg 0 P.toNat).all (mtX L p)
theorem mt_iff {P L:Int} {p:List Int}:mt P L p=true↔∀ x y:Int,0≤y→y<x→x<P.toNat→0≤rd p x→0≤rd p y→jn L x y=jn L (rd p x) (rd p y):=by
 unfold mt
 rw [List.all_eq_true]
 constructor
 ·intro h x y h0 h1 h2 h3 h4
  have h5:=h x ((mem_seg _ _ _).2 ⟨by omega,by omega⟩)
  unfold mtX at h5
  rw [decide_eq_false (by omega),Bool.false_or,List.all_eq_true] at h5
  have h6:=h5 y ((mem_seg _ _ _).2 ⟨h0,by omega⟩)
  unfold mtR at h6
  rw [decide_eq_false (by omega),Bool.false_or] at h6
  exact eq_of_beq h6
 ·intro h x hx
  have hx2:=(mem_seg _ _ _).1 hx
  unfold mtX
  by_cases c:rd p x<0
  ·rw [decide_eq_true c];rfl
  ·rw [decide_eq_false c,Bool.false_or,List.all_eq_true]
   intro y hy
   have hy2:=(mem_seg _ _ _).1 hy
   unfold mtR
   by_cases c2:rd p y<0
   ·rw [decide_eq_true c2];rfl
   ·rw [decide_eq_false c2,Bool.false_or]
    exact beq_iff_eq.2 (h x y (by omega) (by omega) (by omega) (by omega) (by omega))
theorem mt_own {P L:Int} {p:List Int} (h:Inv P p) (i j:Int) (hi:0≤i∧i<P) (hj:0≤j∧j<P) (hpi:rd p i = -1) (hpj:rd p j = -1) (hm:mt P L (own p i j)=true):mt P L p=true:=by
 rw [mt_iff] at hm ⊢
 intro x y h0 h1 h2 h3 h4
 have e1:x≠i:=fun e=>by rw [e] at h3;omega
 have e2:x≠j:=fun e=>by rw [e] at h3;omega
 have e3:y≠i:=fun e=>by rw [e] at h4;omega
 have e4:y≠j:=fun e=>by rw [e] at h4;omega
 have hx:=rd_own h i j x hi hj (by omega)
 have hy:=rd_own h i j y hi hj h0
 rw [if_neg e2,if_neg e1] at hx
 rw [if_neg e4,if_neg e3] at hy
 have:=hm x y h0 h1 h2 (by rw [hx];exact h3) (by rw [hy];exact h4)
 rwa [hx,hy] at this
def colOk (a b:Nat) (i j:Int):Bool:=(dg a b i.toNat==0&&dg a b j.toNat==0)||(dg a b i.toNat==1&&dg a b j.toNat==2)||(dg a b i.toNat==2&&dg a b j.toNat==1)
def candB (L:Int) (a b:Nat) (p:List Int) (i j:Int):Bool:=decide (rd p j<0)&&(!jn L i j&&colOk a b i j)
def cands (P L:Int) (a b:Nat) (p:List Int) (i:Int):List Int:=(seg (i+1) (P-i-1).toNat).filter (candB L a b p i)
def fI (P:Int) (p:List Int):Option Int:=(seg 0 P.toNat).find? (fun x=>decide (rd p x<0))
def Mo (P L:Int) (a b:Nat):Nat→List Int→Option (List Int)
 |0,_=>none
 |d+1,p=>match fI P p with
  |none=>if mt P L p=true then some p else none
  |some i=>(cands P L a b p i).findSome? fun j=>Mo P L a b d (own p i j)
def Ko (P L:Int) (a b:Nat):Nat→List Int→Option (List Int)
 |0,_=>none
 |d+1,p=>match fI P p with
  |none=>some p
  |some i=>(cands P L a b p i).findSome? fun j=>if mt P L (own p i j)=true then Ko P L a b d (own p i j) else none
theorem fI_some {P:Int} {p:List Int} {i:Int} (hP:1≤P) (h:Inv P p) (e:fI P p=some i):(0≤i∧i<P)∧rd p i = -1∧∀ x,0≤x→x<i→0≤rd p x:=by
 unfold fI at e
 have h1:=List.find?_some e
 have h2:=(mem_seg _ _ _).1 (List.mem_of_find?_eq_some e)
 have h3:rd p i<0:=of_decide_eq_true h1
 refine ⟨by omega,?_,fun x hx0 hxi=>?_⟩
 ·rcases h.2 i (by omega) (by omega) with c|c
  ·exact c
  ·omega
 ·have key:∀ (d:Nat) (s:Int),(seg s d).find? (fun x=>decide (rd p x<0))=some i→∀ x,s≤x→x<i→0≤rd p x:=by
   intro d
   induction d with
   |zero=>intro s e;simp [seg] at e
   |succ d ih=>
    intro s e x h4 h5
    simp only [seg,List.find?_cons] at e
    by_cases c:rd p s<0
    ·rw [decide_eq_true c] at e
     have:=Option.some.inj e
     omega
    ·rw [decide_eq_false c] at e
     by_cases c2:x=s
     ·subst c2;omega
     ·exact ih (s+1) e x (by omega) h5
  exact key _ 0 e x hx0 hxi
theorem fI_none {P:Int} {p:List Int} (e:fI P p=none):∀ x,0≤x→x<P→0≤rd p x:=by
 intro x h0 h1
 unfold fI at e
 have:=List.find?_eq_none.1 e x ((mem_seg _ _ _).2 ⟨h0,by omega⟩)
 simpa using this
theorem mem_cands {P L:Int} {a b:Nat} {p:List Int} {i j:Int} (hi:0≤i∧i<P) (h:Inv P p) (hj:j∈cands P L a b p i):(i<j∧j<P)∧rd p j = -1:=by
 obtain ⟨h1,h2⟩:=List.mem_filter.1 hj
 have h3:=(mem_seg _ _ _).1 h1
 unfold candB at h2
 rw [Bool.and_eq_true,decide_eq_true_eq] at h2
 refine ⟨by omega,?_⟩
 rcases h.2 j (by omega) (by omega) with c|c
 ·exact c
 ·omega
theorem Mo_bad {P L:Int} {a b:Nat} (hP:1≤P) (d:Nat):∀ p,Inv P p→mt P L p=false→Mo P L a b d p=none:=by
 induction d with
 |zero=>intro p _ _;rfl
 |succ d ih=>
  intro p h hm
  simp only [Mo]
  cases e:fI P p with
  |none=>simp only;rw [hm];rfl
  |some i=>
   simp only
   obtain ⟨hi,hpi,_⟩:=fI_some hP h e
   rw [List.findSome?_eq_none_iff]
   intro j hj
   obtain ⟨hj1,hpj⟩:=mem_cands hi h hj
   refine ih _ (h.own i j hi (by omega) (by omega) hpi hpj) ?_
   cases c:mt P L (own p i j) with
   |false=>rfl
   |true=>
    have:=mt_own h i j hi (by omega) hpi hpj c
    rw [hm] at this
    cases this
theorem findSome_congr {α:Type} {l:List Int} {f g:Int→Option α} (h:∀ x∈l,f x=g x):l.findSome? f=l.findSome? g:=by
 induction l with
 |nil=>rfl
 |cons x l ih=>
  simp only [List.findSome?_cons]
  rw [h x List.mem_cons_self,ih (fun y hy=>h y (List.mem_cons_of_mem _ hy))]
theorem Mo_Ko {P L:Int} {a b:Nat} (hP:1≤P) (d:Nat):∀ p,Inv P p→mt P L p=true→Mo P L a b d p=Ko P L a b d p:=by
 induction d with
 |zero=>intro p _ _;rfl
 |succ d ih=>
  intro p h hm
  simp only [Mo,Ko]
  cases e:fI P p with
  |none=>simp only;rw [if_pos hm]
  |some i=>
   simp only
   obtain ⟨hi,hpi,_⟩:=fI_some hP h e
   refine findSome_congr (fun j hj=>?_)
   obtain ⟨hj1,hpj⟩:=mem_cands hi h hj
   have ho:=h.own i j hi (by omega) (by omega) hpi hpj
   cases c:mt P L (own p i j) with
   |true=>rw [if_pos rfl];exact ih _ ho c
   |false=>rw [if_neg (by simp)];exact Mo_bad hP d _ ho c
def Tells (r:List Int×Bool) (o:Option (List Int)):Prop:=r.2=o.isSome∧∀ z,o=some z→r.1=z
end Go.Proofs.YtlmohkbimnhecaaGreat.B
namespace Go.Proofs.YtlmohkbimnhecaaGreat.B
open Go.RowKit Go.Proofs.YtlmohkbimnhecaaGreat.Q Go.Proofs.YtlmohkbimnhecaaGreatW.PrintWords Go.Proofs.YtlmohkbimnhecaaGreatW.PrintLast Go.Proofs.YtlmohkbimnhecaaGreatW.PrintMore
section
variable {P L R B:Int} {p:List Int}
theorem Inv.neg (h:Inv P p) (x:Int) (h0:0≤x) (h1:x<P) (hn:rd p x<0):rd p x = -1:=by
 rcases h.2 x h0 h1 with c|c
 ·exact c
 ·omega
theorem Inv.pos (h:Inv P p) (x:Int) (h0:0≤x) (h1:x<P) (hn:¬ rd p x<0):(0≤rd p x∧rd p x<P)∧rd p x≠x∧rd p (rd p x)=x:=by
 rcases h.2 x h0 h1 with c|c
 ·omega
 ·exact c
theorem Inv.inj (h:Inv P p) (x y:Int) (h0:0≤x∧x<P) (h1:0≤y∧y<P) (hx:¬ rd p x<0) (hy:¬ rd p y<0) (hne:x≠y):rd p x≠rd p y:=fun e=>by
 have e1:=(h.pos x h0.1 h0.2 hx).2.2
 have e2:=(h.pos y h1.1 h1.2 hy).2.2
 rw [e,e2] at e1
 exact hne e1.symm
theorem mt_in_spec (hP:1≤P∧P≤8) (h:Inv P p) (x:Int) (h0:0≤x) (h1:x<P) (hx:¬ rd p x<0) (r:Bool) (hk:Ev (fun k=>spec_l05Matches.l0 k p (wrap64 (x+1)) P L R B) r) (d:Nat):∀ y:Int,0≤y→y+d=x →
 Ev (fun k=>spec_l05Matches.l1 k p x y P L R B) ((seg y d).all (mtR L p x)&&r):=by
 have hlen:=h.1
 have hpx:=h.pos x h0 h1 hx
 induction d with
 |zero=>
  intro y hy e
  refine evSucc (fun k=>by rw [spec_l05Matches.l1]) ?_
  exact evF (by omega) (evE (by simp [seg]) hk)
 |succ d ih=>
  intro y hy e
  have e1:=ih (y+1) (by omega) (by omega)
  refine evSucc (fun k=>by rw [spec_l05Matches.l1,wrap_in (x:=y+1) (by omega) (by omega)]) ?_
  refine evT (by omega) (evT hy (evT (by omega) ?_))
  simp only [seg,List.all_cons]
  by_cases c:rd p y<0
  ·refine evF (by omega) (evE ?_ e1)
   unfold mtR
   rw [decide_eq_true c]
   simp
  ·have hpy:=h.pos y hy (by omega) c
   refine evT (by omega) ?_
   refine evG (joins_spec P L R B x y (by omega) (by omega)) ?_
   refine evT h0 (evT (by omega) ?_)
   refine evG (joins_spec P L R B _ _ (by omega) (by omega)) ?_
   rw [show mtR L p x y=(decide (rd p y<0)||(jn L x y==jn L (rd p x) (rd p y))) from rfl,decide_eq_false c,Bool.false_or]
   generalize jn L x y=u
   generalize jn L (rd p x) (rd p y)=v
   by_cases cc:u=v
   ·subst cc
    exact evF (by simp) (evE (by simp) e1)
   ·exact evT (by simpa using cc) (evE (by simp [cc]) (evS _))
theorem matches_spec (hP:1≤P∧P≤8) (h:Inv P p):Ev (fun k=>spec_l05Matches.f k P L R B p) (mt P L p):=by
 have hlen:=h.1
 have key:∀ (d:Nat) (x:Int),0≤x→x+d=P→Ev (fun k=>spec_l05Matches.l0 k p x P L R B) ((seg x d).all (mtX L p)):=by
  intro d
  induction d with
  |zero=>
   intro x h0 e
   refine evSucc (fun k=>by rw [spec_l05Matches.l0]) ?_
   exact evF (by omega) (evE (by simp [seg]) (evS _))
  |succ d ih=>
   intro x h0 e
   have e1:=ih (x+1) (by omega) (by omega)
   refine evSucc (fun k=>by rw [spec_l05Matches.l0,wrap_in (x:=x+1) (by omega) (by omega)]) ?_
   refine evT (by omega) (evT h0 (evT (by omega) ?_))
   simp only [seg,List.all_cons]
   by_cases c:rd p x<0
   ·refine evT c (evE ?_ e1)
    unfold mtX
    rw [decide_eq_true c]
    simp
   ·have hpx:=h.pos x h0 (by omega) c
    refine evF c (evF hpx.2.1 (evT (by omega) (evT (by omega) ?_)))
    rw [hpx.2.2]
    refine evSucc (fun k=>by rw [spec_l05Matches.j1]) ?_
    refine evF (by simp) ?_
    unfold mtX
    rw [decide_eq_false c,Bool.false_or]
    refine mt_in_spec hP h x h0 (by omega) c _ ?_ x.toNat 0 (by omega) (by omega)
    rw [wrap_in (x:=x+1) (by omega) (by omega)]
    exact e1
 exact key P.toNat 0 (by omega) (by omega)
theorem mt_in_impl (hP:1≤P∧P≤8) (h:Inv P p) (hf:∀ x,0≤x→x<P→0≤rd p x) (x:Int) (h0:0≤x) (h1:x<P) (r:Bool) (hk:Ev (fun k=>impl_Field_isMatching.l0 k p P (wrap64 (x+1)) P L R B) r) (d:Nat):∀ y:Int,0≤y→y+d=x →
 Ev (fun k=>impl_Field_isMatching.l1 k p x P x x y P L R B) ((seg y d).all (mtR L p x)&&r):=by
 have hlen:=h.1
 have hx:=hf x h0 h1
 have hpx:=h.pos x h0 h1 (by omega)
 induction d with
 |zero=>
  intro y hy e
  refine evSucc (fun k=>by rw [impl_Field_isMatching.l1]) ?_
  exact evF (by omega) (evE (by simp [seg]) hk)
 |succ d ih=>
  intro y hy e
  have e1:=ih (y+1) (by omega) (by omega)
  have c:=hf y hy (by omega)
  have hpy:=h.pos y hy (by omega) (by omega)
  refine evSucc (fun k=>by rw [impl_Field_isMatching.l1,wrap_in (x:=y+1) (by omega) (by omega)]) ?_
  refine evT (by omega) ?_
  refine evG (joins_impl P L R B x y (by omega) (by omega) (by omega)) ?_
  refine evT h0 (evT (by omega) (evT hy (evT (by omega) ?_)))
  refine evG (joins_impl P L R B _ _ (by omega) (by omega) (h.inj x y (by omega) (by omega) (by omega) (by omega) (by omega))) ?_
  simp only [seg,List.all_cons]
  rw [show mtR L p x y=(decide (rd p y<0)||(jn L x y==jn L (rd p x) (rd p y))) from rfl,decide_eq_false (by omega),Bool.false_or]
  generalize jn L x y=u
  generalize jn L (rd p x) (rd p y)=v
  by_cases cc:u=v
  ·subst cc
   exact evF (by simp) (evE (by simp) e1)
  ·exact evT (by simpa using cc) (evE (by simp [cc]) (evS _))
theorem full_impl (hP:1≤P∧P≤8) (h:Inv P p) (hf:∀ x,0≤x→x<P→0≤rd p x):Ev (fun k=>impl_Field_isMatching.f k P L R B p) (mt P L p):=by
 have hlen:=h.1
 have key:∀ (d:Nat) (x:Int),0≤x→x+d=P→Ev (fun k=>impl_Field_isMatching.l0 k p P x P L R B) ((seg x d).all (mtX L p)):=by
  intro d
  induction d with
  |zero=>
   intro x h0 e
   refine evSucc (fun k=>by rw [impl_Field_isMatching.l0]) ?_
   exact evF (by omega) (evE (by simp [seg]) (evS _))
  |succ d ih=>
   intro x h0 e
   have e1:=ih (x+1) (by omega) (by omega)
   have c:=hf x h0 (by omega)
   have hpx:=h.pos x h0 (by omega) (by omega)
   refine evSucc (fun k=>by rw [impl_Field_isMatching.l0]) ?_
   refine evT (by omega) (evT h0 (evT (by omega) ?_))
   simp only [seg,List.all_cons]
   refine evF hpx.2.1 (evT (by omega) (evT (by omega) ?_))
   rw [hpx.2.2]
   refine evSucc (fun k=>by rw [impl_Field_isMatching.j1]) ?_
   refine evF (by simp) ?_
   unfold mtX
   rw [decide_eq_false (by omega),Bool.false_or]
   refine mt_in_impl hP h hf x h0 (by omega) _ ?_ x.toNat 0 (by omega) (by omega)
   rw [wrap_in (x:=x+1) (by omega) (by omega)]
   exact e1
 exact key P.toNat 0 (by omega) (by omega)
def fV (o:Option Int):Int:=match o with|none => -1|some i=>i
theorem index_impl (hP:1≤P∧P≤8) (h:Inv P p):Ev (fun k=>slices_Index_int64_int64.f k p (-1)) (fV (fI P p)):=by
 have hlen:=h.1
 have key:∀ (d:Nat) (x:Int),0≤x→x+d=P→Ev (fun k=>slices_Index_int64_int64.l0 k p (-1) (p.length:Int) x) (fV ((seg x d).find? (fun x=>decide (rd p x<0)))):=by
  intro d
  induction d with
  |zero=>
   intro x h0 e
   refine evSucc (fun k=>by rw [slices_Index_int64_int64.l0]) ?_
   exact evF (by omega) (evS _)
  |succ d ih=>
   intro x h0 e
   have e1:=ih (x+1) (by omega) (by omega)
   refine evSucc (fun k=>by rw [slices_Index_int64_int64.l0,wrap_in (x:=x+1) (by omega) (by omega)]) ?_
   refine evT (by omega) (evT h0 (evT (by omega) ?_))
   simp only [seg,List.find?_cons]
   by_cases c:rd p x<0
   ·rw [decide_eq_true c]
    exact evT (by rw [h.neg x h0 (by omega) c]) (evS _)
   ·rw [decide_eq_false c]
    exact evF (by omega) e1
 exact key P.toNat 0 (by omega) (by omega)
theorem first_spec (hP:1≤P∧P≤8) (h:Inv P p) (r:List Int×Bool) (hk:Ev (fun k=>spec_l05Kept.j1 k p (match fI P p with|none=>P|some i=>i) P L R B) r):Ev (fun k=>spec_l05Kept.l0 k p 0 P L R B) r:=by
 have hlen:=h.1
 have key:∀ (d:Nat) (x:Int),0≤x→x+d=P→Ev (fun k=>spec_l05Kept.j1 k p (match (seg x d).find? (fun x=>decide (rd p x<0)) with|none=>P|some i=>i) P L R B) r→Ev (fun k=>spec_l05Kept.l0 k p x P L R B) r:=by
  intro d
  induction d with
  |zero=>
   intro x h0 e hk
   refine evSucc (fun k=>by rw [spec_l05Kept.l0]) ?_
   have:x=P:=by omega
   subst this
   exact evF (by omega) hk
  |succ d ih=>
   intro x h0 e hk
   refine evSucc (fun k=>by rw [spec_l05Kept.l0,wrap_in (x:=x+1) (by omega) (by omega)]) ?_
   refine evT (by omega) (evT h0 (evT (by omega) ?_))
   simp only [seg,List.find?_cons] at hk
   by_cases c:rd p x<0
   ·rw [decide_eq_true c] at hk
    exact evF (by omega) hk
   ·rw [decide_eq_false c] at hk
    exact evT (by omega) (ih (x+1) (by omega) (by omega) hk)
 exact key P.toNat 0 (by omega) (by omega) hk
end
theorem col_case (u v:Nat) (hu:u≤2) (hv:v≤2):(!((u==0&&v==0)||(u==1&&v==2)||(u==2&&v==1)))=if (u:Int)=(v:Int) then ((u:Int)!=0) else if wrap64 ((u:Int)*(v:Int))=2 then false else true:=by
 have key:∀ u v:Fin 3,(!((u.val==0&&v.val==0)||(u.val==1&&v.val==2)||(u.val==2&&v.val==1)))=if (u.val:Int)=(v.val:Int) then ((u.val:Int)!=0) else if wrap64 ((u.val:Int)*(v.val:Int))=2 then false else true:=by decide +kernel
 exact key ⟨u,by omega⟩ ⟨v,by omega⟩
theorem dg_two {n a b:Nat} (h:Two n a b) (i:Nat):dg a b i≤2:=by
 have h1:=h.2.2 i
 have h2:=dg_le a b i
 omega
theorem bit_case (a b i j:Nat) (hi:dg a b i≤2) (hj:dg a b j≤2):(!((dg a b i==0&&dg a b j==0)||(dg a b i==1&&dg a b j==2)||(dg a b i==2&&dg a b j==1))) =
 if (((a.testBit i).toNat:Nat):Int)=(((b.testBit j).toNat:Nat):Int) then ((((b.testBit i).toNat:Nat):Int)!=(((a.testBit j).toNat:Nat):Int)) else true:=by
 unfold dg at *
 revert hi hj
 cases a.testBit i<;>cases b.testBit i<;>cases a.testBit j<;>cases b.testBit j<;>decide +kernel
section
variable {P L:Int} {a b:Nat}
def Told (P q:Int) (p:List Int):Prop:=(0≤q∧q≤P)∧∀ x,0≤x→x<q→0≤rd p x
theorem Told.own {p:List Int} {i j:Int} (hI:Inv P p) (hi:0≤i∧i<P) (hj:i<j∧j<P) (hl:∀ x,0≤x→x<i→0≤rd p x):Told P (i+1) (own p i j):=by
 refine ⟨by omega,fun x h0 h1=>?_⟩
 rw [rd_own hI i j x hi (by omega) h0,if_neg (by omega)]
 by_cases c:x=i
 ·rw [if_pos c];omega
 ·rw [if_neg c];exact hl x h0 (by omega)
theorem own_spec (l:List Int) (h:l.length≤100):spec_l01Own.f l=some l:=by
 unfold spec_l01Own.f
 simp only [Option.bind_some]
 rw [if_pos (by simp;omega)]
 simp
theorem from_impl (hP:1≤P∧P≤8) (h2:Two P.toNat a b) (d:Nat):∀ (q:Int) (p:List Int),Inv P p→Told P q p→P+1≤d+q→∃ r,Ev (fun k=>impl_Field_matchFrom.f k P L a b p) r∧Tells r (Mo P L a b d p):=by
 induction d with
 |zero=>intro q p _ h hd;have:=h.1;omega
 |succ d ih=>
  intro q p hI hT hd
  have hlen:=hI.1
  have hsm:=h2.small (by omega)
  have hx:=index_impl hP hI
  cases e:fI P p with
  |none=>
   rw [e] at hx
   refine ⟨(p,mt P L p),?_,?_⟩
   ·refine evSucc (fun k=>by rw [impl_Field_matchFrom.f]) ?_
    exact evB hx (evT (by decide) (evB (full_impl hP hI (fI_none e)) (evS _)))
   ·simp only [Mo,e]
    cases mt P L p with
    |true=>exact ⟨rfl,fun z hz=>Option.some.inj hz⟩
    |false=>exact ⟨rfl,fun z hz=>by cases hz⟩
  |some i=>
   rw [e] at hx
   obtain ⟨hi,hpi,hlow⟩:=fI_some hP.1 hI e
   have hiq:q≤i:=by
    rcases Int.lt_or_le i q with c|c
    ·have:=hT.2 i hi.1 c
     omega
    ·exact c
   have key:∀ (s:Nat) (j:Int),i<j→j+s=P→∃ r,Ev (fun k=>impl_Field_matchFrom.l0 k p i j P L a b) r∧Tells r (((seg j s).filter (candB L a b p i)).findSome? fun j=>Mo P L a b d (own p i j)):=by
    intro s
    induction s with
    |zero=>
     intro j hj es
     refine ⟨([],false),?_,rfl,fun z hz=>by cases hz⟩
     refine evSucc (fun k=>by rw [impl_Field_matchFrom.l0]) ?_
     exact evF (by omega) (evS _)
    |succ s ihs=>
     intro j hj es
     obtain ⟨r1,hr1,ht1⟩:=ihs (j+1) (by omega) (by omega)
     have hstep:∃ r,Ev (fun k=>impl_Field_matchFrom.j1 k p i j (!candB L a b p i j) P L a b) r∧Tells r (((seg j (s+1)).filter (candB L a b p i)).findSome? fun j=>Mo P L a b d (own p i j)):=by
      simp only [seg,List.filter_cons]
      cases hc:candB L a b p i j with
      |false=>
       refine ⟨r1,?_,by simpa using ht1⟩
       refine evSucc (fun k=>by rw [impl_Field_matchFrom.j1,wrap_in (x:=j+1) (by omega) (by omega)]) ?_
       exact evT (by simp) hr1
      |true=>
       have hpj:rd p j = -1:=by
        unfold candB at hc
        rw [Bool.and_eq_true,decide_eq_true_eq] at hc
        exact hI.neg j (by omega) (by omega) hc.1
       obtain ⟨r0,hr0,ht0⟩:=ih (i+1) (own p i j) (hI.own i j hi (by omega) (by omega) hpi hpj) (Told.own hI hi (by omega) hlow) (by omega)
       simp only [if_true,List.findSome?_cons]
       have hbase:∀ r,Ev (fun k=>(impl_Field_matchFrom.f k P L a b (own p i j)).bind fun bt476=>(if bt476.2=true then (some (bt476.1,true)) else (impl_Field_matchFrom.l0 k p i (j+1) P L a b))) r→Ev (fun k=>impl_Field_matchFrom.j1 k p i j (!true) P L a b) r:=by
        intro r hr
        refine evSucc (fun k=>by rw [impl_Field_matchFrom.j1,wrap_in (x:=j+1) (by omega) (by omega)]) ?_
        refine evF (by simp) ?_
        refine evG (by unfold slices_Clone_int64_int64.f;rw [if_pos (by omega)]) ?_
        exact evT hi.1 (evT (by omega) (evT (by omega) (evT (by omega) hr)))
       cases ho:Mo P L a b d (own p i j) with
       |none=>
        rw [ho] at ht0
        refine ⟨r1,hbase r1 (evB hr0 (evF ?_ hr1)),ht1⟩
        rw [ht0.1]
        simp
       |some z=>
        rw [ho] at ht0
        refine ⟨(r0.1,true),hbase _ (evB hr0 (evT (by rw [ht0.1];rfl) (evS _))),rfl,fun z' hz=>?_⟩
        rw [← Option.some.inj hz]
        exact ht0.2 z rfl
     obtain ⟨r,hr,ht⟩:=hstep
     refine ⟨r,?_,ht⟩
     refine evSucc (fun k=>by rw [impl_Field_matchFrom.l0]) ?_
     refine evT (by omega) ?_
     refine evG (colour_impl P L a b i hi.1) (evG (colour_impl P L a b j (by omega)) (evT (by omega) (evT (by omega) ?_)))
     unfold candB at hr
     by_cases c1:rd p j<0
     ·rw [decide_eq_true c1,Bool.true_and] at hr
      refine evF (by omega) ?_
      refine evG (joins_impl P L a b i j (by omega) (by omega) (by omega)) ?_
      cases hjn:jn L i j with
      |true=>
       rw [hjn] at hr
       exact evT rfl hr
      |false=>
       rw [hjn,Bool.not_false,Bool.true_and] at hr
       unfold colOk at hr
       rw [col_case _ _ (dg_two h2 i.toNat) (dg_two h2 j.toNat)] at hr
       rw [col_dg a b i hsm.1 hsm.2 (by omega) (by omega),col_dg a b j hsm.1 hsm.2 (by omega) (by omega)]
       refine evF (by decide) ?_
       by_cases c3:((dg a b i.toNat:Nat):Int)=((dg a b j.toNat:Nat):Int)
       ·rw [if_pos c3] at hr
        exact evT c3 hr
       ·rw [if_neg c3] at hr
        refine evF c3 ?_
        by_cases c4:wrap64 (((dg a b i.toNat:Nat):Int)*((dg a b j.toNat:Nat):Int))=2
        ·rw [if_pos c4] at hr
         exact evT c4 hr
        ·rw [if_neg c4] at hr
         exact evF c4 hr
     ·rw [decide_eq_false c1,Bool.false_and] at hr
      exact evT (by omega) hr
   obtain ⟨r,hr,ht⟩:=key (P-i-1).toNat (i+1) (by omega) (by omega)
   refine ⟨r,?_,?_⟩
   ·refine evSucc (fun k=>by rw [impl_Field_matchFrom.f]) ?_
    refine evB hx (evF ?_ ?_)
    ·show ¬ (i<0)
     omega
    ·show Ev (fun k=>impl_Field_matchFrom.l0 k p i (wrap64 (i+1)) P L a b) r
     rw [wrap_in (x:=i+1) (by omega) (by omega)]
     exact hr
   ·simp only [Mo,e]
    exact ht
theorem from_spec (hP:1≤P∧P≤8) (h2:Two P.toNat a b) (d:Nat):∀ (q:Int) (p:List Int),Inv P p→Told P q p→P+1≤d+q→∃ r,Ev (fun k=>spec_l05Kept.f k P L a b p) r∧Tells r (Ko P L a b d p):=by
 induction d with
 |zero=>intro q p _ h hd;have:=h.1;omega
 |succ d ih=>
  intro q p hI hT hd
  have hlen:=hI.1
  have hsm:=h2.small (by omega)
  have hx:=first_spec (L:=L) (R:=a) (B:=b) hP hI
  cases e:fI P p with
  |none=>
   rw [e] at hx
   refine ⟨(p,true),?_,?_⟩
   ·refine evSucc (fun k=>by rw [spec_l05Kept.f]) (hx _ ?_)
    refine evSucc (fun k=>by rw [spec_l05Kept.j1]) ?_
    exact evT rfl (evS _)
   ·simp only [Ko,e]
    exact ⟨rfl,fun z hz=>Option.some.inj hz⟩
  |some i=>
   rw [e] at hx
   obtain ⟨hi,hpi,hlow⟩:=fI_some hP.1 hI e
   have hiq:q≤i:=by
    rcases Int.lt_or_le i q with c|c
    ·have:=hT.2 i hi.1 c
     omega
    ·exact c
   have key:∀ (s:Nat) (j:Int),i<j→j+s=P→∃ r,Ev (fun k=>spec_l05Kept.l1 k p i j P L a b) r∧Tells r (((seg j s).filter (candB L a b p i)).findSome? fun j=>if mt P L (own p i j)=true then Ko P L a b d (own p i j) else none):=by
    intro s
    induction s with
    |zero=>
     intro j hj es
     refine ⟨([],false),?_,rfl,fun z hz=>by cases hz⟩
     refine evSucc (fun k=>by rw [spec_l05Kept.l1]) ?_
     exact evF (by omega) (evS _)
    |succ s ihs=>
     intro j hj es
     obtain ⟨r1,hr1,ht1⟩:=ihs (j+1) (by omega) (by omega)
     have hstep:∃ r,Ev (fun k=>spec_l05Kept.j3 k p i j (!candB L a b p i j) P L a b) r∧Tells r (((seg j (s+1)).filter (candB L a b p i)).findSome? fun j=>if mt P L (own p i j)=true then Ko P L a b d (own p i j) else none):=by
      simp only [seg,List.filter_cons]
      cases hc:candB L a b p i j with
      |false=>
       refine ⟨r1,?_,by simpa using ht1⟩
       refine evSucc (fun k=>by rw [spec_l05Kept.j3,wrap_in (x:=j+1) (by omega) (by omega)]) ?_
       exact evT (by simp) hr1
      |true=>
       have hpj:rd p j = -1:=by
        unfold candB at hc
        rw [Bool.and_eq_true,decide_eq_true_eq] at hc
        exact hI.neg j (by omega) (by omega) hc.1
       have hown:=hI.own i j hi (by omega) (by omega) hpi hpj
       obtain ⟨r0,hr0,ht0⟩:=ih (i+1) (own p i j) hown (Told.own hI hi (by omega) hlow) (by omega)
       have hm:=matches_spec (L:=L) (R:=a) (B:=b) hP hown
       simp only [if_true,List.findSome?_cons]
       have hbase:∀ r,Ev (fun k=>((spec_l05Matches.f k P L a b (own p i j)).bind fun t439=>(if t439=true then ((spec_l05Kept.f k P L a b (own p i j)).bind fun bt440=>(if bt440.2=true then (some (bt440.1,true)) else (spec_l05Kept.l1 k p i (j+1) P L a b))) else (spec_l05Kept.l1 k p i (j+1) P L a b)))) r→Ev (fun k=>spec_l05Kept.j3 k p i j (!true) P L a b) r:=by
        intro r hr
        refine evSucc (fun k=>by rw [spec_l05Kept.j3,wrap_in (x:=j+1) (by omega) (by omega)]) ?_
        refine evF (by simp) ?_
        refine evG (own_spec p (by omega)) ?_
        exact evT hi.1 (evT (by omega) (evT (by omega) (evT (by omega) (evG rfl hr))))
       cases hmt:mt P L (own p i j) with
       |false=>
        rw [hmt] at hm
        exact ⟨r1,hbase r1 (evB hm (evF (by decide) hr1)),ht1⟩
       |true=>
        rw [hmt] at hm
        rw [if_pos rfl]
        cases ho:Ko P L a b d (own p i j) with
        |none=>
         rw [ho] at ht0
         refine ⟨r1,hbase r1 (evB hm (evT rfl (evB hr0 (evF ?_ hr1)))),ht1⟩
         rw [ht0.1]
         simp
        |some z=>
         rw [ho] at ht0
         refine ⟨(r0.1,true),hbase _ (evB hm (evT rfl (evB hr0 (evT (by rw [ht0.1];rfl) (evS _))))),rfl,fun z' hz=>?_⟩
         rw [← Option.some.inj hz]
         exact ht0.2 z rfl
     obtain ⟨r,hr,ht⟩:=hstep
     refine ⟨r,?_,ht⟩
     refine evSucc (fun k=>by rw [spec_l05Kept.l1,u64_at i hi.1 (by omega),u64_at j (by omega) (by omega)]) ?_
     refine evT (by omega) (evT (by omega) (evT (by omega) ?_))
     unfold candB at hr
     by_cases c1:rd p j<0
     ·rw [decide_eq_true c1,Bool.true_and] at hr
      refine evF (by omega) ?_
      refine evG (joins_spec P L a b i j (by omega) (by omega)) ?_
      cases hjn:jn L i j with
      |true=>
       rw [hjn] at hr
       exact evT rfl hr
      |false=>
       rw [hjn,Bool.not_false,Bool.true_and] at hr
       unfold colOk at hr
       rw [bit_case a b _ _ (dg_two h2 i.toNat) (dg_two h2 j.toNat)] at hr
       rw [dig_bit a i hsm.1 (by omega) (by omega),dig_bit b j hsm.2 (by omega) (by omega),dig_bit b i hsm.2 (by omega) (by omega),dig_bit a j hsm.1 (by omega) (by omega)]
       refine evF (by decide) (evT hi.1 (evT (by omega) ?_))
       by_cases c3:(((a.testBit i.toNat).toNat:Nat):Int)=(((b.testBit j.toNat).toNat:Nat):Int)
       ·rw [if_pos c3] at hr
        exact evT c3 hr
       ·rw [if_neg c3] at hr
        exact evF c3 hr
     ·rw [decide_eq_false c1,Bool.false_and] at hr
      exact evT (by omega) hr
   obtain ⟨r,hr,ht⟩:=key (P-i-1).toNat (i+1) (by omega) (by omega)
   refine ⟨r,?_,?_⟩
   ·refine evSucc (fun k=>by rw [spec_l05Kept.f]) (hx _ ?_)
    refine evSucc (fun k=>by rw [spec_l05Kept.j1]) ?_
    refine evF ?_ ?_
    ·show ¬ (i=P)
     omega
    ·show Ev (fun k=>spec_l05Kept.l1 k p i (wrap64 (i+1)) P L a b) r
     rw [wrap_in (x:=i+1) (by omega) (by omega)]
     exact hr
   ·simp only [Ko,e]
    exact ht
theorem Mo_len (d:Nat):∀ p z,Mo P L a b d p=some z→z.length=p.length:=by
 induction d with
 |zero=>intro p z h;cases h
 |succ d ih=>
  intro p z h
  simp only [Mo] at h
  cases e:fI P p with
  |none=>
   rw [e] at h
   simp only at h
   split at h
   ·rw [← Option.some.inj h]
   ·cases h
  |some i=>
   rw [e] at h
   simp only at h
   obtain ⟨_,j,_,_,hj,_⟩:=List.findSome?_eq_some_iff.1 h
   have:=ih _ _ hj
   rw [this]
   simp [own]
theorem rd_rep (n:Nat) (x v:Int) (h0:0≤x) (h1:x<n):rd (List.replicate n v) x=v:=by
 unfold rd
 rw [List.getD_eq_getElem?_getD,List.getElem?_replicate,if_pos (by omega)]
 rfl
theorem begin_spec (hP:1≤P∧P≤8) (R B:Int) (r:List Int×Int) (hk:Ev (fun k=>(spec_l05Kept.f k P L R B (List.replicate P.toNat (-1))).bind fun bt452=>(if bt452.2=true then (some (bt452.1,(0:Int))) else (some (([]:List Int),4)))) r) (d:Nat):∀ x:Int,0≤x→x+d=P→Ev (fun k=>spec_FindKept.l0 k (List.replicate x.toNat (-1)) x P L R B) r:=by
 induction d with
 |zero=>
  intro x h0 e
  have:x=P:=by omega
  subst this
  refine evSucc (fun k=>by rw [spec_FindKept.l0]) ?_
  exact evF (by omega) hk
 |succ d ih=>
  intro x h0 e
  have e1:=ih (x+1) (by omega) (by omega)
  refine evSucc (fun k=>by rw [spec_FindKept.l0,wrap_in (x:=x+1) (by omega) (by omega)]) ?_
  refine evT (by omega) (evT (by simp;omega) ?_)
  rw [show (x+1).toNat=x.toNat+1 by omega,List.replicate_succ'] at e1
  exact e1
end
end Go.Proofs.YtlmohkbimnhecaaGreat.B
