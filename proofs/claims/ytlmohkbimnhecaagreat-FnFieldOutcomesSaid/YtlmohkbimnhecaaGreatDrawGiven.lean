/-
  The reference's draws of fields, games and players end, whatever the code. Codes of at most 4096 bytes.
-/
import Derived.Test.YtlmohkbimnhecaaGreatDrawBase
import Derived.Test.YtlmohkbimnhecaaGreatField
import Derived.Test.YtlmohkbimnhecaaGreatQ2
import Derived.Test.YtlmohkbimnhecaaGreatQ1
import Derived.Test.YtlmohkbimnhecaaGreatQ5
import Derived.Test.YtlmohkbimnhecaaGreatQ7
namespace Go.Proofs.YtlmohkbimnhecaaGreat.B
open Go.RowKit Go.Proofs.YtlmohkbimnhecaaGreat.Q Go.Proofs.YtlmohkbimnhecaaGreatW.PrintWords Go.Proofs.YtlmohkbimnhecaaGreatW.PrintLast Go.Proofs.YtlmohkbimnhecaaGreatW.PrintMore
def innU (n gL j:Int):Nat→Int→Int→Int
 |0,_,a=>a
 |d+1,i,a=>innU n gL j d (i+1) (if jn gL i j=true then Go.bits .or .i64 a (shl .i64 1 (trI (n+j)+n+i)) else a)
def outU (n gL:Int):Nat→Int→Int→Int
 |0,_,a=>a
 |d+1,j,a=>outU n gL d (j+1) (innU n gL j j.toNat 0 a)
section
variable (n m gL gR gB:Int)
theorem in_spec (fL fR fB x111000 x111002 x111003 j:Int) (hn:0≤n∧n≤8) (hj:0≤j∧j<8) (r:Int→Int×Int×Int×Int)
 (hk:∀ a,Ev (fun k=>spec_l05Union.l0 k (wrap64 (j+1)) n fL fR fB m gL gR gB x111000 a x111002 x111003) (r a)) (d:Nat):
 ∀ i a:Int,0≤i→j=i+d→Ev (fun k=>spec_l05Union.l1 k j i n fL fR fB m gL gR gB x111000 a x111002 x111003) (r (innU n gL j d i a)):=by
 induction d with
 |zero=>
  intro i a h0 h1
  refine evSucc (fun k=>by rw [spec_l05Union.l1]) ?_
  exact evF (by omega) (hk a)
 |succ d ih=>
  intro i a h0 h1
  obtain ⟨t0,t1,t2⟩:=trI_range (n+j) (by omega) (by omega)
  refine evSucc (fun k=>by rw [spec_l05Union.l1]) ?_
  rw [joins_spec m gL gR gB i j (by omega) (by omega)]
  refine evT (by omega) (evG rfl ?_)
  rw [wrap_in (x:=i+1) (by omega) (by omega),wrap_in (x:=j+n) (by omega) (by omega),show j+n=n+j by omega,show wrap64 (Int.tdiv (wrap64 ((n+j)*(wrap64 (n+j-1)))) 2)=trI (n+j) from rfl]
  rw [wrap_in (x:=trI (n+j)+i) (by omega) (by omega),wrap_in (x:=trI (n+j)+i+n) (by omega) (by omega),u64_at _ (by omega) (by omega),show trI (n+j)+i+n=trI (n+j)+n+i by omega]
  simp only [innU]
  by_cases c:jn gL i j=true
  ·rw [if_pos c]
   exact evT c (evT (by omega) (ih (i+1) _ (by omega) (by omega)))
  ·rw [if_neg c]
   exact evF c (ih (i+1) _ (by omega) (by omega))
theorem out_spec (fL fR fB x111000 x111002 x111003:Int) (hn:0≤n∧n≤8) (hm:m≤8) (d:Nat):
 ∀ j a:Int,0≤j→m=j+d→Ev (fun k=>spec_l05Union.l0 k j n fL fR fB m gL gR gB x111000 a x111002 x111003) (x111000,outU n gL d j a,x111002,x111003):=by
 induction d with
 |zero=>
  intro j a h0 h1
  refine evSucc (fun k=>by rw [spec_l05Union.l0]) ?_
  exact evF (by omega) (evS _)
 |succ d ih=>
  intro j a h0 h1
  refine evSucc (fun k=>by rw [spec_l05Union.l0]) ?_
  refine evT (by omega) ?_
  simp only [outU]
  refine in_spec n m gL gR gB fL fR fB x111000 x111002 x111003 j hn (by omega) (fun a=>(x111000,outU n gL d (j+1) a,x111002,x111003)) (fun a=>?_) j.toNat 0 a (by omega) (by omega)
  rw [wrap_in (x:=j+1) (by omega) (by omega)]
  exact ih (j+1) a (by omega) (by omega)
end
theorem union_spec (n fL fR fB m gL gR gB:Int) (hn:0≤n∧n≤8) (hm:1≤m∧m≤8):Ev (fun k=>spec_l05Union.f k n fL fR fB m gL gR gB) (n+m,outU n gL (m-1).toNat 1 fL,Go.bits .or .i64 fR (shl .i64 gR n),Go.bits .or .i64 fB (shl .i64 gB n)):=by
 unfold spec_l05Union.f
 rw [u64_at n (by omega) (by omega),wrap_in (x:=n+m) (by omega) (by omega)]
 exact evT (by omega) (out_spec n m gL gR gB fL fR fB _ _ _ (by omega) (by omega) (m-1).toNat 1 fL (by omega) (by omega))
theorem shl_nat (i:Nat) (h:i≤60):shl .i64 1 (i:Int)=((2 ^ i:Nat):Int):=by
 have hd:∀ m:Fin 61,shl .i64 1 ((m.val:Nat):Int)=((2 ^ m.val:Nat):Int):=by decide +kernel
 exact hd ⟨i,by omega⟩
theorem or_step (x i:Nat) (hx:x<2 ^ 61) (hi:i≤60):Go.bits .or .i64 (x:Int) (shl .i64 1 (i:Int))=((x|||2 ^ i:Nat):Int):=by
 rw [shl_nat i hi]
 exact or_nat x (2 ^ i) (Nat.lt_trans hx (by decide)) (Nat.lt_of_le_of_lt (Nat.pow_le_pow_right (by decide) hi) (by decide))
theorem shl_up8 (c p:Nat) (hc:c<256) (hp:p≤8):shl .i64 (c:Int) (p:Int)=((c<<<p:Nat):Int):=by
 have hd:∀ p:Fin 9,∀ c:Fin 256,shl .i64 ((c.val:Nat):Int) ((p.val:Nat):Int)=((c.val<<<p.val:Nat):Int):=by decide +kernel
 exact hd ⟨p,by omega⟩ ⟨c,hc⟩
theorem put_lt (a c p q:Nat) (ha:a<2 ^ p) (hc:c<2 ^ q):a|||c<<<p<2 ^ (p+q):=by
 refine Nat.or_lt_two_pow (Nat.lt_of_lt_of_le ha (Nat.pow_le_pow_right (by decide) (by omega))) ?_
 rw [Nat.shiftLeft_eq,Nat.pow_add,Nat.mul_comm (2 ^ p)]
 exact Nat.mul_lt_mul_of_pos_right hc (Nat.pow_pos (by decide))
def Sets (n:Nat) (R B:Int):Prop:=∃ a b:Nat,R=a∧B=b∧a<2 ^ n∧b<2 ^ n
theorem Sets.small {n:Nat} {R B:Int} (h:Sets n R B) (hn:n≤8):(0≤R∧R<4611686018427387904)∧(0≤B∧B<4611686018427387904):=by
 obtain ⟨a,b,rfl,rfl,h1,h2⟩:=h
 have h3:(2:Nat) ^ n≤2 ^ 8:=Nat.pow_le_pow_right (by decide) hn
 have k8:(2:Nat) ^ 8=256:=by decide
 rw [k8] at h3
 generalize (2:Nat) ^ n=m at h1 h2 h3
 omega
theorem set_on {n:Nat} (x:Nat) (i:Int) (hx:x<2 ^ n) (hn:n≤8) (h0:0≤i) (h1:i<n):∃ y:Nat,Go.bits .or .i64 (x:Int) (shl .i64 1 i)=y∧y<2 ^ n:=by
 obtain ⟨j,rfl⟩:=Int.eq_ofNat_of_zero_le h0
 have hx2:x<2 ^ 61:=Nat.lt_of_lt_of_le hx (Nat.pow_le_pow_right (by decide) (by omega))
 refine ⟨x|||2 ^ j,or_step x j hx2 (by omega),Nat.or_lt_two_pow hx (Nat.pow_lt_pow_right (by decide) (by omega))⟩
theorem set_off {n:Nat} (x:Nat) (i:Int) (hx:x<2 ^ n) (hn:n≤8) (h0:0≤i) (h1:i<n):∃ y:Nat,Go.bits .andNot .i64 (x:Int) (shl .i64 1 i)=y∧y<2 ^ n:=by
 obtain ⟨j,rfl⟩:=Int.eq_ofNat_of_zero_le h0
 have hj:(2:Nat) ^ j<2 ^ n:=Nat.pow_lt_pow_right (by decide) (by omega)
 have k8:(2:Nat) ^ n≤2 ^ 8:=Nat.pow_le_pow_right (by decide) hn
 have k62:(2:Nat) ^ 8<2 ^ 62:=by decide
 refine ⟨x ^^^ (x&&&2 ^ j),?_,Nat.xor_lt_two_pow hx (Nat.and_lt_two_pow x hj)⟩
 rw [shl_nat j (by omega)]
 exact andNot_nat x (2 ^ j) (Nat.lt_trans (Nat.lt_of_lt_of_le hx k8) k62) (Nat.lt_trans (Nat.lt_of_lt_of_le hj k8) k62)
def FP (cl:List Int) (n:Int) (v:Int×Int×Int×Int×Int×Int):Prop:=v.1=n∧Sets n.toNat v.2.2.1 v.2.2.2.1∧OkC cl v.2.2.2.2.1
theorem draw_end (cl:List Int) (n g x10 a h L R B:Int) (hn:1≤n∧n≤8) (hx:¬ x10>0) (hs:Sets n.toNat R B) (hc:OkC cl a):Tot (fun k=>spec_l05Draw.l1 k n g x10 cl a h n L R B) (FP cl n):=by
 refine Tot.succ (fun k=>by rw [spec_l05Draw.l1]) (Tot.no hx (Tot.bind (next_tot cl a h 10 hc) (fun v hv=>Tot.ite (fun _=>Tot.bind (next_tot cl _ _ n hv.1) (fun u hu=>?_)) (fun _=>Tot.val ⟨rfl,hs,hv.1⟩))))
 obtain ⟨p1,p2⟩:=hu.2.1 (by omega)
 obtain ⟨x,y,rfl,rfl,h1,h2⟩:=hs
 obtain ⟨x',e1,e2⟩:=set_off x u.1 h1 (by omega) p1 (by omega)
 obtain ⟨y',e3,e4⟩:=set_on y u.1 h2 (by omega) p1 (by omega)
 rw [u64_at u.1 p1 (by omega)]
 exact Tot.yes p1 (Tot.val ⟨rfl,⟨x',y',e1,e3,e2,e4⟩,hu.1⟩)
theorem mem_rd (l:List Int) (i:Int) (h0:0≤i) (h1:i<l.length):rd l i∈l:=by
 unfold rd
 rw [List.getD_eq_getElem?_getD,List.getElem?_eq_getElem (by omega)]
 exact List.getElem_mem _
theorem draw_moves (cl:List Int) (n g:Int) (hn:1≤n∧n≤8) (d:Nat):∀ (x10 a h L R B:Int),x10=d→d≤10→Sets n.toNat R B→OkC cl a→Tot (fun k=>spec_l05Draw.l1 k n g x10 cl a h n L R B) (FP cl n):=by
 induction d with
 |zero=>
  intro x10 a h L R B hd _ hs hc
  exact draw_end cl n g x10 a h L R B hn (by omega) hs hc
 |succ d ih=>
  intro x10 a h L R B hd hd2 hs hc
  have hw:wrap64 (x10-1)=x10-1:=wrap_in (by omega) (by omega)
  obtain ⟨z1,z2⟩:=hs.small (by omega)
  refine Tot.succ (fun k=>by rw [spec_l05Draw.l1,hw]) (Tot.yes (by omega) (Tot.bind (P:=fun l=>l=ptsL n L R B g (Int.tmod x10 2)) ⟨_,points_spec n L R B g (Int.tmod x10 2) hn z1 z2,rfl⟩ ?_))
  rintro l rfl
  refine Tot.ite (fun hl=>Tot.bind (next_tot cl a h _ hc) (fun v hv=>?_)) (fun _=>ih (x10-1) a h L R B (by omega) (by omega) hs hc)
  obtain ⟨p1,p2⟩:=hv.2.1 (by omega)
  have hm:=mem_rd _ v.1 p1 p2
  generalize rd (ptsL n L R B g (Int.tmod x10 2)) v.1=i at hm ⊢
  unfold ptsL at hm
  have hi:=(mem_seg _ _ _).1 (List.mem_filter.1 hm).1
  refine Tot.yes p1 (Tot.yes p2 (Tot.bind (P:=fun u=>u=(n,L,mvR R (Int.tmod x10 2) i,mvB B (Int.tmod x10 2) i)) (Tot.const ⟨_,move_spec n L R B (Int.tmod x10 2) i (by omega) (by omega),rfl⟩) ?_))
  rintro u rfl
  refine ih (x10-1) _ _ L _ _ (by omega) (by omega) ?_ hv.1
  obtain ⟨x,y,rfl,rfl,h1,h2⟩:=hs
  unfold mvR mvB
  by_cases c:Int.tmod x10 2=0
  ·rw [if_pos c,if_pos c]
   obtain ⟨x',e1,e2⟩:=set_on x i h1 (by omega) (by omega) (by omega)
   exact ⟨x',y,e1,rfl,e2,h2⟩
  ·rw [if_neg c,if_neg c]
   obtain ⟨y',e1,e2⟩:=set_on y i h2 (by omega) (by omega) (by omega)
   exact ⟨x,y',rfl,e1,h1,e2⟩
theorem draw_lines (cl:List Int) (n g few:Int) (hn:1≤n∧n≤8) (d:Nat):∀ (e a h L:Int),0≤e→trI n=e+d→OkC cl a→Tot (fun k=>spec_l05Draw.l0 k n g few e cl a h n L 0 0) (FP cl n):=by
 have hT:=trI_range n (by omega) (by omega)
 induction d with
 |zero=>
  intro e a h L h0 hd hc
  refine Tot.succ (fun k=>by rw [spec_l05Draw.l0,show wrap64 (Int.tdiv (wrap64 (n*(wrap64 (n-1)))) 2)=trI n from rfl]) (Tot.no (by omega) (Tot.bind (next_tot cl a h 4 hc) (fun v hv=>?_)))
  obtain ⟨p1,p2⟩:=hv.2.1 (by omega)
  exact draw_moves cl n g hn v.1.toNat v.1 _ _ L 0 0 (by omega) (by omega) ⟨0,0,rfl,rfl,Nat.pow_pos (by decide),Nat.pow_pos (by decide)⟩ hv.1
 |succ d ih=>
  intro e a h L h0 hd hc
  have hw:wrap64 (e+1)=e+1:=wrap_in (by omega) (by omega)
  refine Tot.succ (fun k=>by rw [spec_l05Draw.l0,hw,show wrap64 (Int.tdiv (wrap64 (n*(wrap64 (n-1)))) 2)=trI n from rfl]) (Tot.yes (by omega) (Tot.bind (next_tot cl a h few hc) (fun v hv=>Tot.ite (fun _=>Tot.yes (u64_pos _) (ih (e+1) _ _ _ (by omega) (by omega) hv.1)) (fun _=>ih (e+1) _ _ _ (by omega) (by omega) hv.1))))
theorem draw_tot (cl:List Int) (a h n g:Int) (hn:1≤n∧n≤8) (hc:OkC cl a):Tot (fun k=>spec_l05Draw.f k cl a h n g) (FP cl n):=by
 unfold spec_l05Draw.f
 have hT:=trI_range n (by omega) (by omega)
 exact Tot.bind (pick_tot cl a h [2,3,3,5] (by simp) (by simp) hc) (fun v hv=>draw_lines cl n g v.1 hn (trI n).toNat 0 _ _ 0 (by omega) (by omega) hv.1)
def FQ (cl:List Int) (v:Int×Int×Int×Int×Int×Int):Prop:=(1≤v.1∧v.1≤8)∧Sets v.1.toNat v.2.2.1 v.2.2.2.1∧OkC cl v.2.2.2.2.1
theorem both_sets {n:Nat} {R B R' B':Int} (h:Sets n R B) (h':Sets n R' B') (hn:n≤4):Sets (n+n) (Go.bits .or .i64 R (shl .i64 R' (n:Int))) (Go.bits .or .i64 B (shl .i64 B' (n:Int))):=by
 obtain ⟨a,b,rfl,rfl,h1,h2⟩:=h
 obtain ⟨c,d,rfl,rfl,h3,h4⟩:=h'
 have k8:(2:Nat) ^ n≤2 ^ 4:=Nat.pow_le_pow_right (by decide) hn
 have k16:(2:Nat) ^ 4=16:=by decide
 have k62:(2:Nat) ^ (n+n)≤2 ^ 8:=Nat.pow_le_pow_right (by decide) (by omega)
 have kk:(2:Nat) ^ 8<2 ^ 62:=by decide
 have g1:=put_lt a c n n h1 h3
 have g2:=put_lt b d n n h2 h4
 have ka:a<2 ^ 62:=Nat.lt_trans (Nat.lt_of_lt_of_le h1 k8) (by decide)
 have kb:b<2 ^ 62:=Nat.lt_trans (Nat.lt_of_lt_of_le h2 k8) (by decide)
 refine ⟨a|||c<<<n,b|||d<<<n,?_,?_,g1,g2⟩
 ·rw [shl_up8 c n (by omega) (by omega)]
  exact or_nat a _ ka (Nat.lt_of_le_of_lt Nat.right_le_or (Nat.lt_of_lt_of_le g1 (Nat.le_trans k62 (Nat.le_of_lt kk))))
 ·rw [shl_up8 d n (by omega) (by omega)]
  exact or_nat b _ kb (Nat.lt_of_le_of_lt Nat.right_le_or (Nat.lt_of_lt_of_le g2 (Nat.le_trans k62 (Nat.le_of_lt kk))))
theorem twice_tot (cl:List Int) (a h g:Int) (hc:OkC cl a):Tot (fun k=>spec_l05Twice.f k cl a h g) (FQ cl):=by
 unfold spec_l05Twice.f
 refine Tot.bind (next_tot cl a h 4 hc) (fun v hv=>?_)
 obtain ⟨p1,p2⟩:=hv.2.1 (by omega)
 rw [wrap_in (x:=1+v.1) (by omega) (by omega)]
 refine Tot.bind (draw_tot cl _ _ (1+v.1) g (by omega) hv.1) ?_
 rintro ⟨P,L,R,B,a2,h2⟩ ⟨e1,e2,e3⟩
 simp only at e1 e2 e3 ⊢
 subst e1
 refine Tot.bind (P:=fun u=>u=_) ⟨_,union_spec (1+v.1) L R B (1+v.1) L B R (by omega) (by omega),rfl⟩ ?_
 rintro u rfl
 refine Tot.val ⟨by show 1≤1+v.1+(1+v.1)∧1+v.1+(1+v.1)≤8;omega,?_,e3⟩
 obtain ⟨n,hn⟩:=Int.eq_ofNat_of_zero_le (show 0≤1+v.1 by omega)
 have e4:Sets n R B:=by rw [hn] at e2;exact e2
 have e5:Sets n B R:=by
  obtain ⟨x,y,z1,z2,z3,z4⟩:=e4
  exact ⟨y,x,z2,z1,z4,z3⟩
 have:=both_sets e4 e5 (by omega)
 show Sets (1+v.1+(1+v.1)).toNat (Go.bits .or .i64 R (shl .i64 B (1+v.1))) (Go.bits .or .i64 B (shl .i64 R (1+v.1)))
 rw [hn,show ((n:Int)+(n:Int)).toNat=n+n by omega]
 exact this
def FW (cl:List Int) (v:Int×Int×Int×Int×Int×Int×Int×Int):Prop:=(1≤v.1∧v.1≤8)∧Sets v.1.toNat v.2.2.1 v.2.2.2.1∧OkC cl v.2.2.2.2.2.2.1
theorem with_end (cl:List Int) (g p a h P L R B:Int) (hP:1≤P∧P≤8) (hs:Sets P.toNat R B) (hc:OkC cl a):Tot (fun k=>spec_l05With.j0 k g p cl a h P L R B) (FW cl):=
 Tot.succ (fun k=>by rw [spec_l05With.j0]) (Tot.bind (next_tot cl a h 30 hc) (fun v hv=>Tot.ite (fun _=>Tot.bind (pick_tot cl _ _ [(-1),2] (by simp) (by simp) hv.1) (fun u hu=>Tot.val ⟨hP,hs,hu.1⟩)) (fun _=>Tot.ite (fun _=>Tot.bind (pick_tot cl _ _ [(-1),2] (by simp) (by simp) hv.1) (fun u hu=>Tot.val ⟨hP,hs,hu.1⟩)) (fun _=>Tot.val ⟨hP,hs,hv.1⟩))))
theorem with_tot (cl:List Int) (a h:Int) (hc:OkC cl a):Tot (fun k=>spec_l05With.f k cl a h) (FW cl):=by
 unfold spec_l05With.f
 refine Tot.bind (next_tot cl a h 2 hc) (fun v1 q1=>Tot.bind (next_tot cl _ _ 2 q1.1) (fun v2 q2=>Tot.bind (pick_tot cl _ _ [4,6,7] (by simp) (by simp) q2.1) (fun v3 q3=>Tot.bind (next_tot cl _ _ v3.1 q3.1) (fun v4 q4=>?_))))
 have hm:v3.1=4∨v3.1=6∨v3.1=7:=by simpa using q3.2
 obtain ⟨p1,p2⟩:=q4.2.1 (by omega)
 rw [wrap_in (x:=1+v4.1) (by omega) (by omega)]
 refine Tot.bind (draw_tot cl _ _ (1+v4.1) v1.1 (by omega) q4.1) (fun v5 q5=>Tot.bind (next_tot cl _ _ 5 q5.2.2) (fun v6 q6=>Tot.ite (fun _=>Tot.bind (twice_tot cl _ _ v1.1 q6.1) (fun v7 q7=>with_end cl _ _ _ _ _ _ _ _ q7.1 q7.2.1 q7.2.2)) (fun _=>with_end cl _ _ _ _ _ _ _ _ (by rw [q5.1];omega) (by have:=q5.2.1;rwa [q5.1]) q6.1)))
theorem bad_tot (cl:List Int) (a h P L R B:Int) (hc:OkC cl a):Tot (fun _=>spec_l05Bad.f cl a h P L R B) (fun v=>OkC cl v.2.2.2.2.1):=by
 unfold spec_l05Bad.f
 exact Tot.bind (next_tot cl a h 40 hc) (fun v hv=>Tot.ite (fun _=>Tot.bind (pick_tot cl _ _ _ (by simp) (by simp) hv.1) (fun u hu=>Tot.val hu.1)) (fun _=>Tot.ite (fun _=>Tot.bind (pick_tot cl _ _ _ (by simp) (by simp) hv.1) (fun u hu=>Tot.val hu.1)) (fun _=>Tot.ite (fun _=>Tot.bind (pick_tot cl _ _ _ (by simp) (by simp) hv.1) (fun u hu=>Tot.val hu.1)) (fun _=>Tot.ite (fun _=>Tot.bind (pick_tot cl _ _ _ (by simp) (by simp) hv.1) (fun u hu=>Tot.val hu.1)) (fun _=>Tot.val hv.1)))))
section
variable (cl:List Int) (hb:∀ x∈cl,0≤x∧x≤255) (hl:cl.length≤4096)
include hb hl
theorem given_tot:Tot (fun k=>spec_l05Given.f k cl) (fun _=>True):=by
 unfold spec_l05Given.f
 refine Tot.bind (from_tot cl hb (by omega)) (fun s hs=>?_)
 rw [hs.1]
 exact Tot.bind (with_tot cl _ _ hs.2) (fun v hv=>Tot.bind (bad_tot cl _ _ _ _ _ _ hv.2.2) (fun _ _=>Tot.val trivial))
theorem drawPlay_tot:Tot (fun k=>spec_DrawPlayField.f k cl) (fun _=>True):=by
 unfold spec_DrawPlayField.f
 exact Tot.bind (given_tot cl hb hl) (fun _ _=>Tot.val trivial)
theorem drawLeft_tot:Tot (fun k=>spec_DrawMovesLeft.f k cl) (fun _=>True):=by
 unfold spec_DrawMovesLeft.f
 exact Tot.bind (given_tot cl hb hl) (fun _ _=>Tot.val trivial)
theorem drawKept_tot:Tot (fun k=>spec_DrawFindKept.f k cl) (fun _=>True):=by
 unfold spec_DrawFindKept.f
 refine Tot.bind (from_tot cl hb (by omega)) (fun s hs=>?_)
 obtain ⟨hs1,hs2⟩:=hs
 rw [hs1]
 refine Tot.bind (next_tot cl _ _ 3 hs2) (fun v hv=>Tot.ite (fun _=>Tot.bind (given_tot cl hb hl) (fun _ _=>Tot.val trivial)) (fun _=>?_))
 refine Tot.bind (next_tot cl _ _ 2 hv.1) (fun u hu=>Tot.bind (twice_tot cl _ _ _ hu.1) (fun q hq=>?_))
 exact Tot.bind (bad_tot cl _ _ _ _ _ _ hq.2.2) (fun _ _=>Tot.val trivial)
omit hb hl in
theorem match_end (P L R B a h:Int) (l:List Int) (hc:OkC cl a) (hl1:1≤l.length) (hl2:l.length≤8) (x7:Int) (hx:¬ (l.length:Int)<P):Tot (fun k=>spec_DrawIsMatching.l0 k l x7 (l.length:Int) cl a h P L R B) (fun v=>v.2.2.2.2.length≤100):=by
 refine Tot.succ (fun k=>by rw [spec_DrawIsMatching.l0]) (Tot.no hx (Tot.bind (next_tot cl a h 8 hc) (fun v hv=>?_)))
 refine Tot.ite (fun _=>Tot.yes (by omega) (Tot.bind (bad_tot cl _ _ _ _ _ _ hv.1) (fun u _=>Tot.val (by show (l++[0]).length≤100;simp;omega)))) (fun _=>?_)
 refine Tot.ite (fun _=>Tot.bind (pick_tot cl _ _ _ (by simp) (by simp) hv.1) (fun q hq=>Tot.yes (by omega) (Tot.bind (bad_tot cl _ _ _ _ _ _ hq.1) (fun u _=>Tot.val (by show (l.set _ _).length≤100;rw [List.length_set];omega))))) (fun _=>?_)
 have hw:wrap64 ((l.length:Int)-1)=(l.length:Int)-1:=wrap_in (by omega) (by omega)
 refine Tot.ite (fun _=>Tot.yes (by omega) ?_) (fun _=>Tot.bind (bad_tot cl _ _ _ _ _ _ hv.1) (fun u _=>Tot.val (by show l.length≤100;omega)))
 rw [hw]
 exact Tot.yes (by omega) (Tot.yes (by omega) (Tot.bind (bad_tot cl _ _ _ _ _ _ hv.1) (fun u _=>Tot.val (by show ((l.set _ _).set _ _).length≤100;rw [List.length_set,List.length_set];omega))))
omit hb hl in
theorem match_loop (P L R B a h:Int) (hP:1≤P∧P≤8) (hc:OkC cl a) (x7:Int) (d:Nat):∀ l:List Int,(l.length:Int)+d=P→Tot (fun k=>spec_DrawIsMatching.l0 k l x7 (l.length:Int) cl a h P L R B) (fun v=>v.2.2.2.2.length≤100):=by
 induction d with
 |zero=>intro l hl;exact match_end cl P L R B a h l hc (by omega) (by omega) x7 (by omega)
 |succ d ih=>
  intro l hl
  refine Tot.succ (fun k=>by rw [spec_DrawIsMatching.l0]) (Tot.yes (by omega) (Tot.no (by omega) (Tot.yes (by omega) ?_)))
  have:=ih (l++[Int.tmod (wrap64 ((l.length:Int)+x7)) P]) (by simp;omega)
  rw [List.length_append,List.length_singleton,show ((l.length+1:Nat):Int)=wrap64 ((l.length:Int)+1) from (wrap_in (by omega) (by omega)).symm] at this
  exact this
theorem drawMatch_tot:Tot (fun k=>spec_DrawIsMatching.f k cl) (fun v=>v.2.2.2.2.length≤100):=by
 unfold spec_DrawIsMatching.f
 refine Tot.bind (from_tot cl hb (by omega)) (fun s hs=>?_)
 obtain ⟨hs1,hs2⟩:=hs
 rw [hs1]
 refine Tot.bind (next_tot cl _ _ 2 hs2) (fun v hv=>Tot.bind (twice_tot cl _ _ _ hv.1) (fun q hq=>?_))
 exact match_loop cl q.1 _ _ _ _ _ hq.1 hq.2.2 _ q.1.toNat [] (by have:=hq.1;simp;omega)
end
end Go.Proofs.YtlmohkbimnhecaaGreat.B
