/-
  slices.Repeat at []int64, for a list of one number and a count from 1 to 8: that number so often. Told as the printed functions are.
-/
import Derived.Test.YtlmohkbimnhecaaGreatQ5
namespace Go.Proofs.YtlmohkbimnhecaaGreat.Q
open Go.RowKit Go.Proofs.YtlmohkbimnhecaaGreatW.PrintWords Go.Proofs.YtlmohkbimnhecaaGreatW.PrintLast Go.Proofs.YtlmohkbimnhecaaGreatW.PrintMore
def slices_Repeat.f (l:List Int) (c:Int):Option (List Int):=if l.length=1∧1≤c∧c≤8 then some (List.replicate c.toNat (rd l 0)) else none
theorem copy_self {P:Program} {ops:Array Oper} {o:Oper} {a:Act} {W w0:World} {Kc:Act→World→Prop} {Q:Exit→Act→World→Prop} {base:Nat} (hw:Region.wanted o (yielded ops a.tmps)=true) (s x:Operand) (t t' e:TypeId)
 (ho:o.op=.call { callee:=.builtin .copy,args:=#[s,x],argTypes:=#[t,t'] }) (ht:P.underlying t=some (.slice e)) (hinfo:(P.info? e).map (·.size)=some 1) (g cap c n:Nat) (v:Int)
 (hs:a.eval s=.slice (some ⟨g,n,none⟩) (c-n) (cap-n)) (hx:a.eval x=.slice (some ⟨g,0,none⟩) n cap)
 (HO:Kd.R (Kd.int .i64) e W base (fun _=>True) (.slice (some ⟨g,0,none⟩) c cap) (List.replicate n v++List.replicate (c-n) 0)) (_h1:1≤n) (h2:n<c) (HB:Below base w0 W) (hbs:base≤w0.heap.size)
 (h:∀ w1,Kd.R (Kd.int .i64) e w1 base (fun _=>True) (.slice (some ⟨g,0,none⟩) c cap) (List.replicate (n+min n (c-n)) v++List.replicate (c-(n+min n (c-n))) 0)→Below base w0 w1→Kc (a.put o.dst (.int .i64 ((min n (c-n):Nat):Int))) w1):
 if Region.wanted o (yielded ops a.tmps)=true then Oper.wp P o a W Kc Q else Kc (a.put o.dst undef) W:=by
 have hlen:(List.replicate n v++List.replicate (c-n) 0).length=c:=by simp;omega
 have hown:=Kd.own_of_R HO
 rw [hlen] at hown
 rcases hown.2 with ⟨hv,_⟩|⟨g',cap',cur,hv,hb,hh,hnc,hcm,hcs,htake⟩
 ·cases hv
 injection hv with hv1 hv2 hv3
 obtain rfl:g=g':=by injection hv1 with q;injection q
 obtain rfl:cap=cap':=hv3
 rw [Nat.mul_one] at hcs htake
 generalize hk:min n (c-n)=k at h
 have hk1:k≤n:=by omega
 have hk2:n+k≤c:=by omega
 have hT:cur.toList.take c=List.replicate n (.int .i64 v)++List.replicate (c-n) (.int .i64 0):=by rw [htake];simp [encs]
 have hsz:cur.toList.length=cap:=by simpa using hcs
 have hcell:∀ j,j<n→W.cell? ((⟨g,0,none⟩:Addr).add j)=some (.int .i64 v):=fun j hj=>by
  have e1:cur.toList[j]?=some (.int .i64 v):=by
   have e2:(cur.toList.take c)[j]?=some (.int .i64 v):=by
    rw [hT,List.getElem?_append_left (by simpa using hj)]
    simp [hj]
   rwa [List.getElem?_take_of_lt (by omega)] at e2
  rw [show (⟨g,0,none⟩:Addr).add j=⟨g,j,none⟩ by
   simp [Addr.add]
   exact fun q=>q.symm,cell_of_row W g j cur e (0,0) hh]
  simpa using e1
 have hr:=run_copy_cells (P:=P) W t t' o.type e g n (c-n) (cap-n) ⟨g,0,none⟩ n cap (List.replicate k (.int .i64 v)) ht hinfo (by rw [List.length_replicate];first|exact hk.symm|(rw [← hk];exact Nat.min_comm _ _))
  (fun j u hu=>by
   have hj:j<k:=by
    rcases Nat.lt_or_ge j k with q|q
    ·exact q
    ·rw [List.getElem?_eq_none (by simpa using q)] at hu
     cases hu
   rw [hcell j (by omega)]
   simpa [hj] using hu)
  (fun j hj=>by
   have hj2:j<k:=by simpa using hj
   rw [cell_of_row W g _ cur e (0,0) hh]
   simp
   clear hk h
   omega) (fun j _=>blk_frozen hh _) (by intro u hu;rw [List.eq_of_mem_replicate hu];rfl)
 obtain ⟨cur',h3,h4,h5⟩:=setCells_row (List.replicate k (.int .i64 v)) n W cur hh (by simp;omega)
 obtain ⟨s1,s2,s3,s4⟩:=setCells_same g (List.replicate k (.int .i64 v)) n W
 rw [List.length_replicate] at hr h5
 rw [if_pos hw]
 unfold Oper.wp execOp
 simp only [ho,resolve,invoke,builtin,Sem.run_bind,Sem.run_pure,Result.andThen_ok,List.map_toArray,List.map_cons,List.map_nil,hs,hx,hr]
 refine h _ (Kd.R_of_own ?_ (fun _ _=>trivial)) (HB.grown (row:=some g) ⟨s1,s2,s3,by rw [s4];exact Nat.le_refl _,fun i _ hi=>setCells_far _ _ i (fun e=>hi (by rw [e]))⟩ (Nat.le_trans hbs HB.size) (fun i e=>by have:=Option.some.inj e;omega))
 have hl2:(List.replicate (n+k) v++List.replicate (c-(n+k)) 0).length=c:=by simp;omega
 rw [hl2]
 refine ⟨by rw [encs_length,hl2,Nat.mul_one],.inr ⟨g,cap,cur',rfl,hb,h3,hnc,hcm,by rw [h4,hcs,Nat.mul_one],?_⟩⟩
 rw [h5,Nat.mul_one]
 have e1:cur.toList.take n=List.replicate n (.int .i64 v):=by
  have:(cur.toList.take c).take n=cur.toList.take n:=by rw [List.take_take];congr 1;omega
  rw [← this,hT,List.take_append_of_le_length (by simp)]
  simp
 have e2:(cur.toList.drop (n+k)).take (c-(n+k))=List.replicate (c-(n+k)) (.int .i64 0):=by
  rw [← List.drop_take,hT,List.drop_append]
  simp
  omega
 rw [List.take_append,e1]
 rw [List.length_append,List.length_replicate,List.length_replicate,e2,List.take_of_length_le (by simp;omega)]
 simp [encs,← List.replicate_append_replicate]
theorem slice_of_R {W:World} {e base:Nat} {ok:Nat→Prop} {x:Value} {xs:List Int} {c:Nat} (h:Kd.R (Kd.int .i64) e W base ok x xs) (h1:xs.length=c) (h0:1≤c):∃ g cap,x=.slice (some ⟨g,0,none⟩) c cap∧c≤cap:=by
 have hown:=Kd.own_of_R h
 rw [h1] at hown
 rcases hown.2 with ⟨hv,hz⟩|⟨g,cap,cur,hv,_,_,hc,_⟩
 ·omega
 ·exact ⟨g,cap,hv,hc⟩
def repR9T:Bool×List (List Nat×List Nat):=(true,[([],[]),([],[]),([],[]),([1,2],[1,2]),([],[]),([],[]),([4,5],[4,5]),([3,6],[3,6]),([0,7],[0,7]),([8,7,0,1,2,3,4,5,6,7,8],[0,2,5,8])])
def repR9B:List Nat:=[0,0,0,6,0,0,48,126,255,511]
theorem repR9_tab:rtab .any (opsOf Tryz.f46 9)=repR9T:=by kernel_rfl
theorem repR9_bits:waitsOk repR9T.2 repR9B=true:=by kernel_rfl
set_option linter.unusedSimpArgs false
set_option linter.unusedVariables false
set_option maxRecDepth 100000
set_option maxHeartbeats 4000000 in
theorem slices_Repeat.calls (A0:Option Addr) (c0:Nat) (l0:List Int) (a1:Int) (r:List Int) (w:World) (hr0:Kd.C (Kd.int .i64) w A0 l0.length l0) (hc0:l0.length≤c0) (h:slices_Repeat.f l0 a1=some r):
 Calls Tryz.prog 46 #[.slice A0 l0.length c0,.int .i64 a1] w fun e w'=>∃ v0_:Value,e=.returned (v0_)∧Kd.R (Kd.int .i64) 2 w' w.heap.size (fun _=>True) v0_ r∧Below w.heap.size w w':=by
 unfold slices_Repeat.f at h
 split at h
 rotate_left
 ·cases h
 rename_i hcond
 obtain ⟨hl,hc1,hc8⟩:=hcond
 obtain rfl:=Option.some.inj h
 clear h
 obtain ⟨v,rfl⟩:∃ v,l0=[v]:=by
  cases l0 with
  |nil=>cases hl
  |cons x q=>
   cases q with
   |nil=>exact ⟨x,rfl⟩
   |cons y z=>simp at hl
 obtain ⟨c,rfl⟩:=Int.eq_ofNat_of_zero_le (show 0≤a1 by omega)
 have hc8':c≤8:=by omega
 have hc1':1≤c:=by omega
 have hmul:bits_Mul.f 1 (c:Int)=some (0,(c:Int)):=by
  have hall:∀ q:Fin 9,bits_Mul.f 1 ((q.val:Nat):Int)=some (0,((q.val:Nat):Int)):=by decide +kernel
  exact hall ⟨c,by omega⟩
 have HM:=Aside0.mk hmul
 have HR:=Aside0.mk hr0
 have hu1:IntKind.u64.wrap (c:Int)=(c:Int):=by simp [IntKind.wrap,IntKind.bits,IntKind.signed];omega
 have hi1:IntKind.i64.wrap (c:Int)=(c:Int):=by rw [IntKind.wrap_i64];omega
 have hz0:¬ ((c:Int)<0):=by omega
 have hz1:decide ((c:Int)<0)=false:=decide_eq_false hz0
 have hz2:decide ((c:Int)>9223372036854775807)=false:=decide_eq_false (by omega)
 have hz3:¬ ((9223372036854775807:Int)<(c:Int)):=by omega
 have hinfo2:(Tryz.prog.info? 2).map (fun i=>(i.zero,i.size,i.bytes))=some (some (.int .i64 0),1,8):=by kernel_rfl
 clear hmul hr0
 go_enter Tryz.func46,Tryz.ntmps46
 have HB:=Aside0.mk (Below.refl w.heap.size w)
 go_wp2_with (first
  |(go_at_call 83;refine (bits_Mul.calls 1 (c:Int) 0 (c:Int) _ HM.out).mono ?_;rintro e w1 ⟨rfl,⟨nd,rfl⟩⟩;have HBn:=Aside0.mk (pw_below_drewN HB.out nd);clear HB;generalize w.drewN nd=w1 at HBn ⊢)
  |((with_reducible refine gate_dst (N:=30) rfl ?_);refine Kd.R_make (Kd.int .i64) w.heap.size 2 rfl (N:=30) rfl 28 _ _ rfl (c:Int) rfl rfl Tryz.underlying28 (.int .i64 0) 8 hinfo2 rfl (by decide) (by omega) 0 (ok:=fun _=>True) (okp:=fun _=>True) rfl (fun _ hk=>hk) trivial (by omega) (by omega) HBn.out HBn.out.size ?_;intro v2 w2 ho2 hb2 hg2 hnew2;clear hg2 hnew2 HBn;obtain ⟨g,cap,rfl,hccap⟩:=slice_of_R (c:=c) ho2 (by simp) hc1';have HO2:=Aside0.mk ho2;have HB2:=Aside0.mk hb2;clear ho2 hb2)
  |((with_reducible refine gate_dst (N:=33) rfl ?_);refine Kd.R_copy 0 w.heap.size rfl (.tmp 31) (.tmp 32) 28 28 2 rfl Tryz.underlying28 (by kernel_rfl) _ _ [v] _ _ _ _ rfl rfl HO2.out (Kd.C_below HR.out HB2.out) HB2.out HB2.out.size ?_;intro w3 ho3 hb3 hg3;clear hg3;rw [show min 1 (List.replicate (c:Int).toNat (0:Int)).length=1 by simp;omega] at ho3 ⊢;rw [show List.take 1 [v]++List.drop 1 (List.replicate (c:Int).toNat (0:Int))=List.replicate 1 v++List.replicate (c-1) 0 by simp] at ho3;have HO3:=Aside0.mk ho3;have HB3:=Aside0.mk hb3;clear ho3 hb3 HO2 HB2))
 have HC:=Aside0.mk (show 1≤1∧1≤c∧c-1≤c from by omega)
 go_loopg [8] c (fun kq v8 wr=>∃ n:Nat,v8=.int .i64 n∧Aside0 (1≤n∧n≤c∧c-n≤kq)∧Aside0 (Kd.R (Kd.int .i64) 2 wr w.heap.size (fun _=>True) (.slice (some ⟨g,0,none⟩) c cap) (List.replicate n v++List.replicate (c-n) 0))∧Aside0 (Below w.heap.size w wr))
 case atStart=>exact ⟨1,rfl,HC,HO3,HB3⟩
 case round=>
  clear HO3 HB3 HC
  obtain ⟨n,rfl,HC,HO,HB⟩:=hrel
  have hC:=HC.out
  by_cases hlt:n<c
  ·have hltz:(n:Int)<(c:Int):=by omega
   have hltb:decide ((n:Int)<(c:Int))=true:=decide_eq_true hltz
   have hn0:(0:Int)≤n:=by omega
   have hncap:n≤cap:=by omega
   have hnc:(n:Int)≤c:=by omega
   go_wp2_with fail
   have HBd:=Aside0.mk (below_drew1 HB.out)
   have HOd:=Aside0.mk (Kd.R_drew HO.out)
   refine start_ (n:=10) (S:=(fun _=>True)) (ds:=[]) #[false,false,false,false,false,false,false,false,false,false] (by kernel_rfl) rfl rfl trivial (fun hHeld=>?_);refine with_tabW repR9_tab repR9_bits (fun HT_ HW_=>?_)
   generalize wr.drew=wd at HBd HOd hHeld ⊢
   refine pure_ (i:=0) (N:=some 38) (v:=?_) (a':=?_) #[true,false,false,false,false,false,false,false,false,false] rfl rfl (any_of HT_.out (by kernel_rfl)) (fun _ _ _ h=>h) (Or.inl ⟨by rfl,?_⟩) ?_ ?_
   rotate_left
   ·intro w'
    go_simp
    with_reducible rfl
   rotate_left
   ·simp only [Act.put,List.setIfInBounds_toArray,List.set_cons_zero,List.set_cons_succ,i64_w,i32_w]
    rfl
   refine pure_ (i:=1) (N:=some 39) (v:=?_) (a':=?_) #[true,true,false,false,false,false,false,false,false,false] rfl rfl (any_of HT_.out (by kernel_rfl)) (fun _ _ _ h=>h) (Or.inl ⟨by rfl,?_⟩) ?_ ?_
   rotate_left
   ·intro w'
    go_simp
    with_reducible rfl
   rotate_left
   ·simp only [Act.put,List.setIfInBounds_toArray,List.set_cons_zero,List.set_cons_succ,i64_w,i32_w]
    rfl
   refine pure_ (i:=2) (N:=some 40) (v:=?_) (a':=?_) #[true,true,true,false,false,false,false,false,false,false] rfl rfl (any_of HT_.out (by kernel_rfl)) (fun _ _ _ h=>h) (Or.inl ⟨by rfl,?_⟩) ?_ ?_
   rotate_left
   ·intro w'
    go_simp
    with_reducible rfl
   rotate_left
   ·simp only [Act.put,List.setIfInBounds_toArray,List.set_cons_zero,List.set_cons_succ,i64_w,i32_w]
    rfl
   refine pure_ (i:=3) (N:=some 41) (v:=?_) (a':=?_) #[true,true,true,true,false,false,false,false,false,false] rfl rfl (any_of HT_.out (by kernel_rfl)) (fun _ _ _ h=>h) (Or.inl ⟨by rfl,?_⟩) ?_ ?_
   rotate_left
   ·intro w'
    go_simp
    with_reducible rfl
   rotate_left
   ·simp only [Act.put,List.setIfInBounds_toArray,List.set_cons_zero,List.set_cons_succ,i64_w,i32_w]
    rfl
   refine pure_ (i:=4) (N:=some 42) (v:=?_) (a':=?_) #[true,true,true,true,true,false,false,false,false,false] rfl rfl (any_of HT_.out (by kernel_rfl)) (fun _ _ _ h=>h) (Or.inl ⟨by rfl,?_⟩) ?_ ?_
   rotate_left
   ·intro w'
    go_simp
    with_reducible rfl
   rotate_left
   ·simp only [Act.put,List.setIfInBounds_toArray,List.set_cons_zero,List.set_cons_succ,i64_w,i32_w]
    rfl
   refine pure_ (i:=5) (N:=some 43) (v:=?_) (a':=?_) #[true,true,true,true,true,true,false,false,false,false] rfl rfl (any_of HT_.out (by kernel_rfl)) (fun _ _ _ h=>h) (Or.inl ⟨by rfl,?_⟩) ?_ ?_
   rotate_left
   ·intro w'
    go_simp
    with_reducible rfl
   rotate_left
   ·simp only [Act.put,List.setIfInBounds_toArray,List.set_cons_zero,List.set_cons_succ,i64_w,i32_w]
    rfl
   refine pure_ (i:=6) (N:=some 44) (v:=?_) (a':=?_) #[true,true,true,true,true,true,true,false,false,false] rfl rfl (any_of HT_.out (by kernel_rfl)) (fun _ _ _ h=>h) (Or.inl ⟨by rfl,?_⟩) ?_ ?_
   rotate_left
   ·intro w'
    go_simp
    with_reducible rfl
   rotate_left
   ·simp only [Act.put,List.setIfInBounds_toArray,List.set_cons_zero,List.set_cons_succ,i64_w,i32_w]
    rfl
   refine one_ (i:=7) (N:=some 45) #[true,true,true,true,true,true,true,true,false,false] rfl rfl (one_of HT_.out (by kernel_rfl)) (by decide) (fun K hK=>?_)
   refine copy_self (w0:=w) (base:=w.heap.size) (by rfl) (.tmp 41) (.tmp 44) 28 28 2 rfl Tryz.underlying28 (by kernel_rfl) g cap c n v (by show Value.slice (if cap=n then _ else _) _ _=_;rw [if_neg (by omega)]) rfl HOd.out (by omega) (by omega) HBd.out (Nat.le_refl _) ?_
   intro w3 ho3 hb3
   have HO3:=Aside0.mk ho3
   have HB3:=Aside0.mk hb3
   clear ho3 hb3
   refine hK.out _ _ trivial (fun hHeld=>?_)
   clear hK K
   refine norm_ (a':=?_) ?_ ?_
   rotate_left
   ·show Act.put _ (some 45) _=_
    simp only [Act.put,List.setIfInBounds_toArray,List.set_cons_zero,List.set_cons_succ,i64_w,i32_w]
    rfl
   refine pure_ (i:=8) (N:=some 46) (v:=?_) (a':=?_) #[true,true,true,true,true,true,true,true,true,false] rfl rfl (any_of HT_.out (by kernel_rfl)) (fun _ _ _ h=>h) (Or.inl ⟨by rfl,?_⟩) ?_ ?_
   rotate_left
   ·intro w'
    go_simp
    with_reducible rfl
   rotate_left
   ·simp only [Act.put,List.setIfInBounds_toArray,List.set_cons_zero,List.set_cons_succ,i64_w,i32_w]
    rfl
   refine pure_ (i:=9) (N:=some 8) (v:=?_) (a':=?_) #[true,true,true,true,true,true,true,true,true,true] rfl rfl (any_of HT_.out (by kernel_rfl)) (fun _ _ _ h=>h) (Or.inl ⟨by rfl,?_⟩) ?_ ?_
   rotate_left
   ·intro w'
    go_simp
    with_reducible rfl
   rotate_left
   ·simp only [Act.put,List.setIfInBounds_toArray,List.set_cons_zero,List.set_cons_succ,i64_w,i32_w]
    rfl
   refine done_ (done_of HT_.out (by kernel_rfl)) ?_
   have hw3:wrap64 ((n:Int)+((min n (c-n):Nat):Int))=((n+min n (c-n):Nat):Int):=by unfold wrap64;omega
   go_wp2
   go_roundg (c-(n+min n (c-n)))
   case measure=>omega
   case rel=>exact ⟨n+min n (c-n),by first|rw [hw3]|rw [Int.natCast_add],⟨by omega⟩,HO3,HB3⟩
  ·have hltz:¬ ((n:Int)<(c:Int)):=by omega
   have hltb:decide ((n:Int)<(c:Int))=false:=decide_eq_false hltz
   obtain rfl:n=c:=by omega
   go_wp2
   go_ret
   refine ⟨_,rfl,?_,HB.out⟩
   have h9:=HO.out
   rw [Nat.sub_self,List.replicate_zero,List.append_nil] at h9
   exact h9
end Go.Proofs.YtlmohkbimnhecaaGreat.Q
