/-
  impl.IsMatching, told as the printed functions are. Lists of at most 1,000,000,000 numbers.
-/
import Derived.Test.YtlmohkbimnhecaaGreatOutSorted
import Derived.Test.YtlmohkbimnhecaaGreatQ3
import Derived.Test.YtlmohkbimnhecaaGreatQ5
import Derived.Test.YtlmohkbimnhecaaGreatQ6
namespace Go.Proofs.YtlmohkbimnhecaaGreat.Q
open Go.RowKit Go.Proofs.YtlmohkbimnhecaaGreatW.PrintWords Go.Proofs.YtlmohkbimnhecaaGreatW.PrintLast Go.Proofs.YtlmohkbimnhecaaGreatW.PrintMore
def srt (l:List Int):List Int:=l.mergeSort fun x y=>decide (x≤y)
def listF (k:Nat) (f0:Int) (l:List Int):Option Bool:=if (l.length:Int)=f0 then impl_isRising.f k (srt l) 0 (wrap64 (f0-1)) else some false
def impl_IsMatching.f (k:Nat) (f0 f1 f2 f3:Int) (l:List Int):Option (Bool×Int):=
 if l.length≤1000000000 then (listF k f0 l).bind fun wi=>(impl_IsField.f f0 f1 f2 f3).bind fun ist=>(impl_first.f k [⟨ist,1⟩,⟨wi,2⟩]).bind fun c=>if c=0 then (impl_Field_isMatching.f k f0 f1 f2 f3 l).bind fun b=>some (b,0) else some (false,c) else none
theorem impl_IsMatching.mono:∀ a0 a1 a2 a3 a4 k,LeO (impl_IsMatching.f k a0 a1 a2 a3 a4) (impl_IsMatching.f (k+1) a0 a1 a2 a3 a4):=by
 intro a0 a1 a2 a3 a4 k
 unfold impl_IsMatching.f listF
 exact LeO.ite (LeO.bind (LeO.ite (impl_isRising.mono _ _ _ k) (LeO.refl _)) (fun wi=>LeO.bind (LeO.refl _) (fun ist=>LeO.bind (impl_first.mono _ k) (fun c=>LeO.ite (LeO.bind (impl_Field_isMatching.mono _ _ _ _ _ k) (fun b=>LeO.refl _)) (LeO.refl _))))) (LeO.refl _)
theorem spot_of {w:World} {a:Addr} {v:Value} (h:w.cell? a=some v):a.spot=none∧a.block<w.heap.size:=by
 refine ⟨?_,World.block_lt_of_cell? w a h⟩
 unfold World.cell? at h
 split at h
 ·split at h
  ·cases h
  ·rename_i hs
   cases hq:a.spot with
   |none=>rfl
   |some q=>rw [hq] at hs;exact absurd rfl hs
 ·cases h
theorem ints_of_C {w:World} {A:Option Addr} {l:List Int} {c:Nat} (hr:Kd.C (Kd.int .i64) w A l.length l):Ints w.heap.size w (.slice A l.length c) l:=by
 cases l with
 |nil=>exact .inl ⟨_,_,rfl,rfl⟩
 |cons x xs=>
  obtain ⟨ad,rfl,hx⟩:=Kd.at_int hr 0 (by omega) (by simp)
  have hs:=spot_of (a:=ad) (by simpa [Addr.add] using hx)
  obtain ⟨bk,o,q⟩:=ad
  have hq:q=none:=hs.1
  subst hq
  refine .inr ⟨bk,o,c,rfl,hs.2,fun j hj=>?_⟩
  obtain ⟨ad2,e2,hc2⟩:=Kd.at_int hr (j:Int) (by omega) (by omega)
  obtain rfl:=Option.some.inj e2
  have e3:(⟨bk,o,none⟩:Addr).add j=⟨bk,o+j,none⟩:=by
   unfold Addr.add
   split
   ·rename_i h0
    subst h0
    rfl
   ·rfl
  rw [Int.toNat_natCast,e3] at hc2
  rw [hc2]
  simp [rd,List.getD_eq_getElem?_getD]
def match2T:Bool×List (List Nat×List Nat):=(true,[([],[]),([0],[0]),([],[]),([2],[2]),([1,3],[1,3]),([4,1],[4]),([5],[5]),([5],[5]),([7,5],[5,7]),([8,5],[5,8]),([6,9,5,5],[5,6,9]),([5,10],[5,10]),([11,10,0,1,2,3,4,5,6,7,8,9,10,11],[11])])
def match2B:List Nat:=[0,1,0,4,15,31,63,63,191,447,1023,2047,4095]
theorem match2_tab:rtab .any (opsOf Tryz.f18 2)=match2T:=by kernel_rfl
theorem match2_bits:waitsOk match2T.2 match2B=true:=by kernel_rfl
set_option linter.unusedSimpArgs false
set_option linter.unusedVariables false
set_option maxRecDepth 100000
set_option maxHeartbeats 40000000 in
theorem impl_IsMatching.calls (k:Nat) (f0 f1 f2 f3:Int) (A:Option Addr) (c:Nat) (l:List Int) (r1:Bool) (r2:Int) (w:World) (hr:Kd.C (Kd.int .i64) w A l.length l) (hc:l.length≤c) (h:impl_IsMatching.f k f0 f1 f2 f3 l=some (r1,r2)):
 Calls Tryz.prog 18 #[.agg #[.int .i64 f0,.int .i64 f1,.int .i64 f2,.int .i64 f3],.slice A l.length c] w fun e w'=>e=.returned (.tuple #[.bool r1,.int .i64 r2])∧Below w.heap.size w w':=by
 unfold impl_IsMatching.f at h
 split at h
 rotate_left
 ·cases h
 rename_i hlen
 obtain ⟨wi,hwi,h⟩:=Option.bind_eq_some_iff.1 h
 obtain ⟨ist,hist,h⟩:=Option.bind_eq_some_iff.1 h
 obtain ⟨code,hcode,h⟩:=Option.bind_eq_some_iff.1 h
 obtain ⟨ys,hys⟩:∃ ys:List (S70),ys=[⟨ist,1⟩,⟨wi,2⟩]:=⟨_,rfl⟩
 rw [← hys] at hcode
 have HT:=Aside0.mk hist
 have HF:=Aside0.mk hcode
 have Ny:=Aside0.mk hys
 have HR:=Aside0.mk hr
 have HL:=Aside0.mk hlen
 have HH:=Aside0.mk h
 clear hist hcode hys hr hlen h
 have hu:=Tryz.underlying25
 have huc:=Tryz.underlying70
 generalize hw1:w.alloc (.cells #[.int .i64 f0,.int .i64 f1,.int .i64 f2,.int .i64 f3] 25)=w1
 have HB1:Aside0 (Below w.heap.size w w1):=⟨by rw [← hw1];exact (Below.refl _ _).alloc (Nat.le_refl _) _⟩
 have HK1:Aside0 (w1.heap[w.heap.size]?=some (.cells #[.int .i64 f0,.int .i64 f1,.int .i64 f2,.int .i64 f3] 25 (0,0))):=⟨by rw [← hw1];simpa using heap_alloc_new w (.cells #[.int .i64 f0,.int .i64 f1,.int .i64 f2,.int .i64 f3] 25)⟩
 generalize hw2:w1.alloc (.cells #[.slice A l.length c] 28)=w2
 have HB2:Aside0 (Below w1.heap.size w1 w2):=⟨by rw [← hw2];exact (Below.refl _ _).alloc (Nat.le_refl _) _⟩
 have HP2:Aside0 (w2.heap[w1.heap.size]?=some (.cells #[.slice A l.length c] 28 (0,0))):=⟨by rw [← hw2];simpa using heap_alloc_new w1 (.cells #[.slice A l.length c] 28)⟩
 have HB02:Aside0 (Below w.heap.size w w2):=⟨below_then HB1.out HB1.out.size HB2.out⟩
 have cV:=values_calls A l.length c w1
 rw [hw2] at cV
 have cS:=sorted_calls w1.heap.size (.slice A l.length c) l HL.out w2 (lt_of_block HP2.out) (blk_cell HP2.out 0) (ints_of_C (Kd.C_below HR.out HB02.out))
 have HV:=Aside0.mk cV
 have HSo:=Aside0.mk cS
 clear cV cS
 go_enter Tryz.func18,Tryz.ntmps18
 go_wp2_with (first
  |(go_at_call 50;refine HV.out.mono ?_;rintro e w2' ⟨rfl,rfl⟩)
  |(go_at_call 49;refine HSo.out.mono ?_;rintro e w3 ⟨v,rfl,hrow,hb3⟩))
 have HO:Aside0 (Kd.R (Kd.int .i64) 2 w3 w2'.heap.size (fun _=>True) v (srt l)):=⟨Kd.R_of_own (by rw [show (srt l).length=l.length from (List.mergeSort_perm l _).length_eq];exact hrow) (fun _ _=>trivial)⟩
 have HB23:=Aside0.mk hb3
 have HB3:Aside0 (Below w.heap.size w w3):=⟨below_then HB02.out HB02.out.size hb3⟩
 have HK:Aside0 (w3.heap[w.heap.size]?=some (.cells #[.int .i64 f0,.int .i64 f1,.int .i64 f2,.int .i64 f3] 25 (0,0))):=⟨blk_below (blk_below HK1.out HB2.out) hb3⟩
 clear hrow hb3 HV HSo HP2 hw1 hw2 HB2 HB1 HK1
 have hgen:∃ s,s=srt l:=⟨_,rfl⟩
 obtain ⟨s,hs⟩:=hgen
 rw [← hs] at HO
 obtain ⟨As,cs,es⟩:=Kd.R_slice HO.out
 subst es
 have HS:=Aside0.mk (Kd.R_reads' HO.out).2.2
 have hcs:=(Kd.R_reads' HO.out).2.1
 unfold listF at hwi
 rw [← hs] at hwi
 clear HO hs
 by_cases ce:(l.length:Int)=f0
 rotate_left
 ·rw [if_neg ce] at hwi
  have hwf:=Option.some.inj hwi
  subst hwf
  clear hwi
  have cb:((l.length:Int)==f0)=false:=beq_eq_false_iff_ne.mpr ce
  clear ce
  refine start_ (n:=13) (S:=(fun w'=>w'.cell? ⟨w.heap.size,0,none⟩=some (.int .i64 f0))) (ds:=[]) #[false,false,false,false,false,false,false,false,false,false,false,false,false] (by kernel_rfl) rfl rfl (blk_cell (blk_drew HK.out) 0) (fun hHeld=>?_);refine with_tabW match2_tab match2_bits (fun HT_ HW_=>?_)
  have HB4:Aside0 (Below w3.heap.size w3 w3.drew):=⟨below_drew (Below.refl _ _)⟩
  have HK4:=Aside0.mk (blk_drew HK.out)
  generalize w3.drew=w4 at HB4 HK4 hHeld ⊢
  refine pure_ (i:=0) (N:=some 12) (v:=?_) (a':=?_) #[true,false,false,false,false,false,false,false,false,false,false,false,false] rfl rfl (any_of HT_.out (by kernel_rfl)) (fun _ _ _ h=>h) (Or.inl ⟨by rfl,?_⟩) ?_ ?_
  rotate_left
  ·intro w'
   go_simp
   with_reducible rfl
  rotate_left
  ·simp only [Act.put,List.setIfInBounds_toArray,List.set_cons_zero,List.set_cons_succ,i64_w,i32_w]
   rfl
  refine pure_ (i:=2) (N:=some 14) (v:=?_) (a':=?_) #[true,false,true,false,false,false,false,false,false,false,false,false,false] rfl rfl (any_of HT_.out (by kernel_rfl)) (fun _ _ _ h=>h) (Or.inl ⟨by rfl,?_⟩) ?_ ?_
  rotate_left
  ·intro w'
   go_simp
   with_reducible rfl
  rotate_left
  ·simp only [Act.put,List.setIfInBounds_toArray,List.set_cons_zero,List.set_cons_succ,i64_w,i32_w]
   rfl
  refine take_ (i:=3) (N:=some 15) (v:=?_) (a':=?_) #[true,false,true,true,false,false,false,false,false,false,false,false,false] rfl rfl (take_ofW HT_.out HW_.out (by kernel_rfl)) (fun _ _ _ h=>h) (Or.inl ⟨by rfl,?_⟩) hHeld ?_ ?_
  rotate_left
  ·rintro w' s0
   go_simp
   with_reducible rfl
  rotate_left
  ·simp only [Act.put,List.setIfInBounds_toArray,List.set_cons_zero,List.set_cons_succ,i64_w,i32_w]
   rfl
  refine one_ (i:=1) (N:=some 13) #[true,true,true,true,false,false,false,false,false,false,false,false,false] rfl rfl (one_of HT_.out (by kernel_rfl)) (by decide) (fun K hK=>?_)
  refine goes_ Tryz.func51 (by kernel_rfl) rfl #[.slice A l.length c] (by rfl) rfl rfl (by (try simp only [List.map_toArray,List.map_cons,List.map_nil]);first|done|rfl) ?_
  refine (impl_size_int64_51.calls A c l (l.length:Int) _ (Kd.C_below HR.out (below_then HB3.out HB3.out.size HB4.out)) hc rfl).mono ?_
  rintro e w5 ⟨rfl,hd5⟩
  refine ⟨_,rfl,?_⟩
  have HB5:=Aside0.mk (below_then HB4.out HB4.out.size hd5.below)
  have HK5:=Aside0.mk (blk_below HK4.out hd5.below)
  clear hd5
  refine hK.out _ _ (blk_cell HK5.out 0) (fun hHeld=>?_)
  clear hK K
  refine norm_ (a':=?_) ?_ ?_
  rotate_left
  ·show Act.put _ (some 13) _=_
   simp only [Act.put,List.setIfInBounds_toArray,List.set_cons_zero,List.set_cons_succ,i64_w,i32_w]
   rfl
  refine pure_ (i:=4) (N:=some 16) (v:=?_) (a':=?_) #[true,true,true,true,true,false,false,false,false,false,false,false,false] rfl rfl (any_of HT_.out (by kernel_rfl)) (fun _ _ _ h=>h) (Or.inl ⟨by rfl,?_⟩) ?_ ?_
  rotate_left
  ·intro w'
   go_simp
   with_reducible rfl
  rotate_left
  ·simp only [Act.put,List.setIfInBounds_toArray,List.set_cons_zero,List.set_cons_succ,i64_w,i32_w]
   rfl
  refine pure_ (i:=5) (N:=some 17) (v:=?_) (a':=?_) #[true,true,true,true,true,true,false,false,false,false,false,false,false] rfl rfl (any_of HT_.out (by kernel_rfl)) (fun _ _ _ h=>h) (Or.inl ⟨by rfl,?_⟩) ?_ ?_
  rotate_left
  ·intro w'
   go_simp
   with_reducible rfl
  rotate_left
  ·simp only [Act.put,List.setIfInBounds_toArray,List.set_cons_zero,List.set_cons_succ,i64_w,i32_w]
   rfl
  refine pure_ (i:=6) (N:=some 18) (v:=undef) (a':=?_) #[true,true,true,true,true,true,true,false,false,false,false,false,false] rfl rfl (any_of HT_.out (by kernel_rfl)) (fun _ _ _ h=>h) (Or.inr ⟨by rfl,rfl⟩) ?_ ?_
  rotate_left
  ·simp only [Act.put,List.setIfInBounds_toArray,List.set_cons_zero,List.set_cons_succ,i64_w,i32_w]
   rfl
  refine pure_ (i:=7) (N:=some 19) (v:=undef) (a':=?_) #[true,true,true,true,true,true,true,true,false,false,false,false,false] rfl rfl (any_of HT_.out (by kernel_rfl)) (fun _ _ _ h=>h) (Or.inr ⟨by rfl,rfl⟩) ?_ ?_
  rotate_left
  ·simp only [Act.put,List.setIfInBounds_toArray,List.set_cons_zero,List.set_cons_succ,i64_w,i32_w]
   rfl
  refine pure_ (i:=8) (N:=some 20) (v:=undef) (a':=?_) #[true,true,true,true,true,true,true,true,true,false,false,false,false] rfl rfl (any_of HT_.out (by kernel_rfl)) (fun _ _ _ h=>h) (Or.inr ⟨by rfl,rfl⟩) ?_ ?_
  rotate_left
  ·simp only [Act.put,List.setIfInBounds_toArray,List.set_cons_zero,List.set_cons_succ,i64_w,i32_w]
   rfl
  refine pure_ (i:=9) (N:=some 21) (v:=undef) (a':=?_) #[true,true,true,true,true,true,true,true,true,true,false,false,false] rfl rfl (any_of HT_.out (by kernel_rfl)) (fun _ _ _ h=>h) (Or.inr ⟨by rfl,rfl⟩) ?_ ?_
  rotate_left
  ·simp only [Act.put,List.setIfInBounds_toArray,List.set_cons_zero,List.set_cons_succ,i64_w,i32_w]
   rfl
  refine pure_ (i:=10) (N:=some 22) (v:=undef) (a':=?_) #[true,true,true,true,true,true,true,true,true,true,true,false,false] rfl rfl (any_of HT_.out (by kernel_rfl)) (fun _ _ _ h=>h) (Or.inr ⟨by rfl,rfl⟩) ?_ ?_
  rotate_left
  ·simp only [Act.put,List.setIfInBounds_toArray,List.set_cons_zero,List.set_cons_succ,i64_w,i32_w]
   rfl
  refine pure_ (i:=11) (N:=some 23) (v:=?_) (a':=?_) #[true,true,true,true,true,true,true,true,true,true,true,true,false] rfl rfl (any_of HT_.out (by kernel_rfl)) (fun _ _ _ h=>h) (Or.inl ⟨by rfl,?_⟩) ?_ ?_
  rotate_left
  ·intro w'
   go_simp
   with_reducible rfl
  rotate_left
  ·simp only [Act.put,List.setIfInBounds_toArray,List.set_cons_zero,List.set_cons_succ,i64_w,i32_w]
   rfl
  refine pure_ (i:=12) (N:=some 7) (v:=?_) (a':=?_) #[true,true,true,true,true,true,true,true,true,true,true,true,true] rfl rfl (any_of HT_.out (by kernel_rfl)) (fun _ _ _ h=>h) (Or.inl ⟨by rfl,?_⟩) ?_ ?_
  rotate_left
  ·intro w'
   go_simp
   with_reducible rfl
  rotate_left
  ·simp only [Act.put,List.setIfInBounds_toArray,List.set_cons_zero,List.set_cons_succ,i64_w,i32_w]
   rfl
  refine done_ (done_of HT_.out (by kernel_rfl)) ?_
  clear hHeld HT_ HW_ HK4 HB4 cb
  have hc0:w5.cell? ⟨w.heap.size,0,none⟩=some (.int .i64 f0):=blk_cell HK5.out 0
  have hc1:w5.cell? ⟨w.heap.size,1,none⟩=some (.int .i64 f1):=blk_cell HK5.out 1
  have hc2:w5.cell? ⟨w.heap.size,2,none⟩=some (.int .i64 f2):=blk_cell HK5.out 2
  have hc3:w5.cell? ⟨w.heap.size,3,none⟩=some (.int .i64 f3):=blk_cell HK5.out 3
  have HB7:=Aside0.mk (below_then HB3.out HB3.out.size HB5.out)
  have h:=HH.out
  clear HH
  by_cases cz:code=0
  ·rw [if_pos cz] at h
   subst cz
   obtain ⟨b,hb,h⟩:=Option.bind_eq_some_iff.1 h
   simp only [Option.some.injEq,Prod.mk.injEq] at h
   obtain ⟨rfl,rfl⟩:=h
   have HM:=Aside0.mk hb
   clear hb
   go_wp2_with (first
    |(go_at_call 37;refine (impl_IsField.calls f0 f1 f2 f3 ist _ HT.out).mono ?_;rintro e w8 ⟨rfl,hb8⟩;have HB8:=Aside0.mk (below_then HB7.out HB7.out.size hb8);have HK8:=Aside0.mk (blk_below HK5.out hb8);clear hb8)
    |((with_reducible refine gate_dst (N:=29) rfl ?_);refine Kd.R_lit k70 _ 70 ?hg (N:=29) ?hd (xs:=([(⟨ist,1⟩:S70),(⟨false,2⟩:S70)]:List (S70))) (inner:=[.bool ist,.int .i64 1,.bool false,.int .i64 2]) (ok:=fun _=>True) (okp:=fun _=>True) ?hr ?hp (fun _ hk=>hk) trivial (Below.refl _ _) (Nat.le_refl _) (by simp) ?_;(case hd=>rfl);(case hg=>rfl);(case hr=>first|(go_simp;done)|(go_simp;rfl));(case hp=>exact (Reps.c2 (show Kd.M k70 _ _ _ (⟨ist,1⟩:S70) [.bool ist,.int .i64 1] from (k70_mkM _ _ _ (⟨ist,1⟩:S70) )) (Reps.c2 (show Kd.M k70 _ _ _ (⟨false,2⟩:S70) [.bool false,.int .i64 2] from (k70_mkM _ _ _ (⟨false,2⟩:S70) )) (Reps.none _ _))));intro v9 w9 ho9 hb9 hg_ hnew_;clear hg_ hnew_;rw [← Ny.out] at ho9;have HB9:=Aside0.mk (below_then HB8.out HB8.out.size hb9);have HK9:=Aside0.mk (blk_below HK8.out hb9);have HO9:=Aside0.mk ho9;clear ho9 hb9;obtain ⟨Ao9,co9,eo9⟩:=Kd.R_slice HO9.out;subst eo9)
    |(go_at_call 38;refine (impl_first.calls k _ _ ys 0 _ (Kd.R_reads' HO9.out).2.2 (Kd.R_reads' HO9.out).2.1 HF.out).mono ?_;rintro e w10 ⟨rfl,hb10⟩;have HB10:=Aside0.mk (below_then HB9.out HB9.out.size hb10);have HK10:=Aside0.mk (blk_below HK9.out hb10);clear hb10;have hd0:w10.cell? ⟨w.heap.size,0,none⟩=some (.int .i64 f0):=blk_cell HK10.out 0;have hd1:w10.cell? ⟨w.heap.size,1,none⟩=some (.int .i64 f1):=blk_cell HK10.out 1;have hd2:w10.cell? ⟨w.heap.size,2,none⟩=some (.int .i64 f2):=blk_cell HK10.out 2;have hd3:w10.cell? ⟨w.heap.size,3,none⟩=some (.int .i64 f3):=blk_cell HK10.out 3)
    |(go_at_call 53;refine (impl_Field_isMatching.calls k f0 f1 f2 f3 A c l b _ (Kd.C_below HR.out HB10.out) hc HM.out).mono ?_;rintro e w11 ⟨rfl,hb11⟩;have HB11:=Aside0.mk (below_then HB10.out HB10.out.size hb11)))
   go_ret2
   exact ⟨rfl,HB11.out⟩
  ·rw [if_neg cz] at h
   simp only [Option.some.injEq,Prod.mk.injEq] at h
   obtain ⟨rfl,rfl⟩:=h
   have hne:(code !=0)=true:=by simpa using cz
   go_wp2_with (first
    |(go_at_call 37;refine (impl_IsField.calls f0 f1 f2 f3 ist _ HT.out).mono ?_;rintro e w8 ⟨rfl,hb8⟩;have HB8:=Aside0.mk (below_then HB7.out HB7.out.size hb8);have HK8:=Aside0.mk (blk_below HK5.out hb8);clear hb8)
    |((with_reducible refine gate_dst (N:=29) rfl ?_);refine Kd.R_lit k70 _ 70 ?hg (N:=29) ?hd (xs:=([(⟨ist,1⟩:S70),(⟨false,2⟩:S70)]:List (S70))) (inner:=[.bool ist,.int .i64 1,.bool false,.int .i64 2]) (ok:=fun _=>True) (okp:=fun _=>True) ?hr ?hp (fun _ hk=>hk) trivial (Below.refl _ _) (Nat.le_refl _) (by simp) ?_;(case hd=>rfl);(case hg=>rfl);(case hr=>first|(go_simp;done)|(go_simp;rfl));(case hp=>exact (Reps.c2 (show Kd.M k70 _ _ _ (⟨ist,1⟩:S70) [.bool ist,.int .i64 1] from (k70_mkM _ _ _ (⟨ist,1⟩:S70) )) (Reps.c2 (show Kd.M k70 _ _ _ (⟨false,2⟩:S70) [.bool false,.int .i64 2] from (k70_mkM _ _ _ (⟨false,2⟩:S70) )) (Reps.none _ _))));intro v9 w9 ho9 hb9 hg_ hnew_;clear hg_ hnew_;rw [← Ny.out] at ho9;have HB9:=Aside0.mk (below_then HB8.out HB8.out.size hb9);have HK9:=Aside0.mk (blk_below HK8.out hb9);have HO9:=Aside0.mk ho9;clear ho9 hb9;obtain ⟨Ao9,co9,eo9⟩:=Kd.R_slice HO9.out;subst eo9)
    |(go_at_call 38;refine (impl_first.calls k _ _ ys code _ (Kd.R_reads' HO9.out).2.2 (Kd.R_reads' HO9.out).2.1 HF.out).mono ?_;rintro e w10 ⟨rfl,hb10⟩;have HB10:=Aside0.mk (below_then HB9.out HB9.out.size hb10);clear hb10))
   go_ret2
   exact ⟨rfl,HB10.out⟩
 ·rw [if_pos ce] at hwi
  have HW:=Aside0.mk hwi
  clear hwi
  have cb:((l.length:Int)==f0)=true:=beq_iff_eq.mpr ce
  clear ce
  refine start_ (n:=13) (S:=(fun w'=>w'.cell? ⟨w.heap.size,0,none⟩=some (.int .i64 f0))) (ds:=[]) #[false,false,false,false,false,false,false,false,false,false,false,false,false] (by kernel_rfl) rfl rfl (blk_cell (blk_drew HK.out) 0) (fun hHeld=>?_);refine with_tabW match2_tab match2_bits (fun HT_ HW_=>?_)
  have HB4:Aside0 (Below w3.heap.size w3 w3.drew):=⟨below_drew (Below.refl _ _)⟩
  have HK4:=Aside0.mk (blk_drew HK.out)
  generalize w3.drew=w4 at HB4 HK4 hHeld ⊢
  refine pure_ (i:=0) (N:=some 12) (v:=?_) (a':=?_) #[true,false,false,false,false,false,false,false,false,false,false,false,false] rfl rfl (any_of HT_.out (by kernel_rfl)) (fun _ _ _ h=>h) (Or.inl ⟨by rfl,?_⟩) ?_ ?_
  rotate_left
  ·intro w'
   go_simp
   with_reducible rfl
  rotate_left
  ·simp only [Act.put,List.setIfInBounds_toArray,List.set_cons_zero,List.set_cons_succ,i64_w,i32_w]
   rfl
  refine pure_ (i:=2) (N:=some 14) (v:=?_) (a':=?_) #[true,false,true,false,false,false,false,false,false,false,false,false,false] rfl rfl (any_of HT_.out (by kernel_rfl)) (fun _ _ _ h=>h) (Or.inl ⟨by rfl,?_⟩) ?_ ?_
  rotate_left
  ·intro w'
   go_simp
   with_reducible rfl
  rotate_left
  ·simp only [Act.put,List.setIfInBounds_toArray,List.set_cons_zero,List.set_cons_succ,i64_w,i32_w]
   rfl
  refine take_ (i:=3) (N:=some 15) (v:=?_) (a':=?_) #[true,false,true,true,false,false,false,false,false,false,false,false,false] rfl rfl (take_ofW HT_.out HW_.out (by kernel_rfl)) (fun _ _ _ h=>h) (Or.inl ⟨by rfl,?_⟩) hHeld ?_ ?_
  rotate_left
  ·rintro w' s0
   go_simp
   with_reducible rfl
  rotate_left
  ·simp only [Act.put,List.setIfInBounds_toArray,List.set_cons_zero,List.set_cons_succ,i64_w,i32_w]
   rfl
  refine one_ (i:=1) (N:=some 13) #[true,true,true,true,false,false,false,false,false,false,false,false,false] rfl rfl (one_of HT_.out (by kernel_rfl)) (by decide) (fun K hK=>?_)
  refine goes_ Tryz.func51 (by kernel_rfl) rfl #[.slice A l.length c] (by rfl) rfl rfl (by (try simp only [List.map_toArray,List.map_cons,List.map_nil]);first|done|rfl) ?_
  refine (impl_size_int64_51.calls A c l (l.length:Int) _ (Kd.C_below HR.out (below_then HB3.out HB3.out.size HB4.out)) hc rfl).mono ?_
  rintro e w5 ⟨rfl,hd5⟩
  refine ⟨_,rfl,?_⟩
  have HB5:=Aside0.mk (below_then HB4.out HB4.out.size hd5.below)
  have HK5:=Aside0.mk (blk_below HK4.out hd5.below)
  clear hd5
  refine hK.out _ _ (blk_cell HK5.out 0) (fun hHeld=>?_)
  clear hK K
  refine norm_ (a':=?_) ?_ ?_
  rotate_left
  ·show Act.put _ (some 13) _=_
   simp only [Act.put,List.setIfInBounds_toArray,List.set_cons_zero,List.set_cons_succ,i64_w,i32_w]
   rfl
  refine pure_ (i:=4) (N:=some 16) (v:=?_) (a':=?_) #[true,true,true,true,true,false,false,false,false,false,false,false,false] rfl rfl (any_of HT_.out (by kernel_rfl)) (fun _ _ _ h=>h) (Or.inl ⟨by rfl,?_⟩) ?_ ?_
  rotate_left
  ·intro w'
   go_simp
   with_reducible rfl
  rotate_left
  ·simp only [Act.put,List.setIfInBounds_toArray,List.set_cons_zero,List.set_cons_succ,i64_w,i32_w]
   rfl
  refine pure_ (i:=5) (N:=some 17) (v:=?_) (a':=?_) #[true,true,true,true,true,true,false,false,false,false,false,false,false] rfl rfl (any_of HT_.out (by kernel_rfl)) (fun _ _ _ h=>h) (Or.inl ⟨by rfl,?_⟩) ?_ ?_
  rotate_left
  ·intro w'
   go_simp
   with_reducible rfl
  rotate_left
  ·simp only [Act.put,List.setIfInBounds_toArray,List.set_cons_zero,List.set_cons_succ,i64_w,i32_w]
   rfl
  refine pure_ (i:=6) (N:=some 18) (v:=?_) (a':=?_) #[true,true,true,true,true,true,true,false,false,false,false,false,false] rfl rfl (any_of HT_.out (by kernel_rfl)) (fun _ _ _ h=>h) (Or.inl ⟨by rfl,?_⟩) ?_ ?_
  rotate_left
  ·intro w'
   go_simp
   with_reducible rfl
  rotate_left
  ·simp only [Act.put,List.setIfInBounds_toArray,List.set_cons_zero,List.set_cons_succ,i64_w,i32_w]
   rfl
  refine pure_ (i:=7) (N:=some 19) (v:=?_) (a':=?_) #[true,true,true,true,true,true,true,true,false,false,false,false,false] rfl rfl (any_of HT_.out (by kernel_rfl)) (fun _ _ _ h=>h) (Or.inl ⟨by rfl,?_⟩) ?_ ?_
  rotate_left
  ·intro w'
   go_simp
   with_reducible rfl
  rotate_left
  ·simp only [Act.put,List.setIfInBounds_toArray,List.set_cons_zero,List.set_cons_succ,i64_w,i32_w]
   rfl
  refine take_ (i:=8) (N:=some 20) (v:=?_) (a':=?_) #[true,true,true,true,true,true,true,true,true,false,false,false,false] rfl rfl (take_ofW HT_.out HW_.out (by kernel_rfl)) (fun _ _ _ h=>h) (Or.inl ⟨by rfl,?_⟩) hHeld ?_ ?_
  rotate_left
  ·rintro w' s0
   go_simp
   with_reducible rfl
  rotate_left
  ·simp only [Act.put,List.setIfInBounds_toArray,List.set_cons_zero,List.set_cons_succ,i64_w,i32_w]
   rfl
  refine pure_ (i:=9) (N:=some 21) (v:=?_) (a':=?_) #[true,true,true,true,true,true,true,true,true,true,false,false,false] rfl rfl (any_of HT_.out (by kernel_rfl)) (fun _ _ _ h=>h) (Or.inl ⟨by rfl,?_⟩) ?_ ?_
  rotate_left
  ·intro w'
   go_simp
   with_reducible rfl
  rotate_left
  ·simp only [Act.put,List.setIfInBounds_toArray,List.set_cons_zero,List.set_cons_succ,i64_w,i32_w]
   rfl
  refine one_ (i:=10) (N:=some 22) #[true,true,true,true,true,true,true,true,true,true,true,false,false] rfl rfl (one_of HT_.out (by kernel_rfl)) (by decide) (fun K hK=>?_)
  refine goes_ Tryz.func52 (by kernel_rfl) rfl #[.slice As s.length cs,.int .i64 0,.int .i64 (wrap64 (f0-1))] (by rfl) rfl rfl (by (try simp only [List.map_toArray,List.map_cons,List.map_nil]);first|done|rfl) ?_
  refine (impl_isRising.calls k As cs s 0 (wrap64 (f0-1)) wi _ (Kd.C_below HS.out HB5.out) hcs HW.out).mono ?_
  rintro e w6 ⟨rfl,hd6⟩
  refine ⟨_,rfl,?_⟩
  have HB6:=Aside0.mk (below_then HB5.out HB5.out.size hd6.below)
  have HK6:=Aside0.mk (blk_below HK5.out hd6.below)
  clear hd6
  refine hK.out _ _ (blk_cell HK6.out 0) (fun hHeld=>?_)
  clear hK K
  refine norm_ (a':=?_) ?_ ?_
  rotate_left
  ·show Act.put _ (some 22) _=_
   simp only [Act.put,List.setIfInBounds_toArray,List.set_cons_zero,List.set_cons_succ,i64_w,i32_w]
   rfl
  refine pure_ (i:=11) (N:=some 23) (v:=?_) (a':=?_) #[true,true,true,true,true,true,true,true,true,true,true,true,false] rfl rfl (any_of HT_.out (by kernel_rfl)) (fun _ _ _ h=>h) (Or.inl ⟨by rfl,?_⟩) ?_ ?_
  rotate_left
  ·intro w'
   go_simp
   with_reducible rfl
  rotate_left
  ·simp only [Act.put,List.setIfInBounds_toArray,List.set_cons_zero,List.set_cons_succ,i64_w,i32_w]
   rfl
  refine pure_ (i:=12) (N:=some 7) (v:=?_) (a':=?_) #[true,true,true,true,true,true,true,true,true,true,true,true,true] rfl rfl (any_of HT_.out (by kernel_rfl)) (fun _ _ _ h=>h) (Or.inl ⟨by rfl,?_⟩) ?_ ?_
  rotate_left
  ·intro w'
   go_simp
   with_reducible rfl
  rotate_left
  ·simp only [Act.put,List.setIfInBounds_toArray,List.set_cons_zero,List.set_cons_succ,i64_w,i32_w]
   rfl
  refine done_ (done_of HT_.out (by kernel_rfl)) ?_
  clear hHeld HT_ HW_ HK4 HB4 cb
  have hc0:w6.cell? ⟨w.heap.size,0,none⟩=some (.int .i64 f0):=blk_cell HK6.out 0
  have hc1:w6.cell? ⟨w.heap.size,1,none⟩=some (.int .i64 f1):=blk_cell HK6.out 1
  have hc2:w6.cell? ⟨w.heap.size,2,none⟩=some (.int .i64 f2):=blk_cell HK6.out 2
  have hc3:w6.cell? ⟨w.heap.size,3,none⟩=some (.int .i64 f3):=blk_cell HK6.out 3
  have HB7:=Aside0.mk (below_then HB3.out HB3.out.size HB6.out)
  have h:=HH.out
  clear HH
  by_cases cz:code=0
  ·rw [if_pos cz] at h
   subst cz
   obtain ⟨b,hb,h⟩:=Option.bind_eq_some_iff.1 h
   simp only [Option.some.injEq,Prod.mk.injEq] at h
   obtain ⟨rfl,rfl⟩:=h
   have HM:=Aside0.mk hb
   clear hb
   go_wp2_with (first
    |(go_at_call 37;refine (impl_IsField.calls f0 f1 f2 f3 ist _ HT.out).mono ?_;rintro e w8 ⟨rfl,hb8⟩;have HB8:=Aside0.mk (below_then HB7.out HB7.out.size hb8);have HK8:=Aside0.mk (blk_below HK6.out hb8);clear hb8)
    |((with_reducible refine gate_dst (N:=29) rfl ?_);refine Kd.R_lit k70 _ 70 ?hg (N:=29) ?hd (xs:=([(⟨ist,1⟩:S70),(⟨wi,2⟩:S70)]:List (S70))) (inner:=[.bool ist,.int .i64 1,.bool wi,.int .i64 2]) (ok:=fun _=>True) (okp:=fun _=>True) ?hr ?hp (fun _ hk=>hk) trivial (Below.refl _ _) (Nat.le_refl _) (by simp) ?_;(case hd=>rfl);(case hg=>rfl);(case hr=>first|(go_simp;done)|(go_simp;rfl));(case hp=>exact (Reps.c2 (show Kd.M k70 _ _ _ (⟨ist,1⟩:S70) [.bool ist,.int .i64 1] from (k70_mkM _ _ _ (⟨ist,1⟩:S70) )) (Reps.c2 (show Kd.M k70 _ _ _ (⟨wi,2⟩:S70) [.bool wi,.int .i64 2] from (k70_mkM _ _ _ (⟨wi,2⟩:S70) )) (Reps.none _ _))));intro v9 w9 ho9 hb9 hg_ hnew_;clear hg_ hnew_;rw [← Ny.out] at ho9;have HB9:=Aside0.mk (below_then HB8.out HB8.out.size hb9);have HK9:=Aside0.mk (blk_below HK8.out hb9);have HO9:=Aside0.mk ho9;clear ho9 hb9;obtain ⟨Ao9,co9,eo9⟩:=Kd.R_slice HO9.out;subst eo9)
    |(go_at_call 38;refine (impl_first.calls k _ _ ys 0 _ (Kd.R_reads' HO9.out).2.2 (Kd.R_reads' HO9.out).2.1 HF.out).mono ?_;rintro e w10 ⟨rfl,hb10⟩;have HB10:=Aside0.mk (below_then HB9.out HB9.out.size hb10);have HK10:=Aside0.mk (blk_below HK9.out hb10);clear hb10;have hd0:w10.cell? ⟨w.heap.size,0,none⟩=some (.int .i64 f0):=blk_cell HK10.out 0;have hd1:w10.cell? ⟨w.heap.size,1,none⟩=some (.int .i64 f1):=blk_cell HK10.out 1;have hd2:w10.cell? ⟨w.heap.size,2,none⟩=some (.int .i64 f2):=blk_cell HK10.out 2;have hd3:w10.cell? ⟨w.heap.size,3,none⟩=some (.int .i64 f3):=blk_cell HK10.out 3)
    |(go_at_call 53;refine (impl_Field_isMatching.calls k f0 f1 f2 f3 A c l b _ (Kd.C_below HR.out HB10.out) hc HM.out).mono ?_;rintro e w11 ⟨rfl,hb11⟩;have HB11:=Aside0.mk (below_then HB10.out HB10.out.size hb11)))
   go_ret2
   exact ⟨rfl,HB11.out⟩
  ·rw [if_neg cz] at h
   simp only [Option.some.injEq,Prod.mk.injEq] at h
   obtain ⟨rfl,rfl⟩:=h
   have hne:(code !=0)=true:=by simpa using cz
   go_wp2_with (first
    |(go_at_call 37;refine (impl_IsField.calls f0 f1 f2 f3 ist _ HT.out).mono ?_;rintro e w8 ⟨rfl,hb8⟩;have HB8:=Aside0.mk (below_then HB7.out HB7.out.size hb8);have HK8:=Aside0.mk (blk_below HK6.out hb8);clear hb8)
    |((with_reducible refine gate_dst (N:=29) rfl ?_);refine Kd.R_lit k70 _ 70 ?hg (N:=29) ?hd (xs:=([(⟨ist,1⟩:S70),(⟨wi,2⟩:S70)]:List (S70))) (inner:=[.bool ist,.int .i64 1,.bool wi,.int .i64 2]) (ok:=fun _=>True) (okp:=fun _=>True) ?hr ?hp (fun _ hk=>hk) trivial (Below.refl _ _) (Nat.le_refl _) (by simp) ?_;(case hd=>rfl);(case hg=>rfl);(case hr=>first|(go_simp;done)|(go_simp;rfl));(case hp=>exact (Reps.c2 (show Kd.M k70 _ _ _ (⟨ist,1⟩:S70) [.bool ist,.int .i64 1] from (k70_mkM _ _ _ (⟨ist,1⟩:S70) )) (Reps.c2 (show Kd.M k70 _ _ _ (⟨wi,2⟩:S70) [.bool wi,.int .i64 2] from (k70_mkM _ _ _ (⟨wi,2⟩:S70) )) (Reps.none _ _))));intro v9 w9 ho9 hb9 hg_ hnew_;clear hg_ hnew_;rw [← Ny.out] at ho9;have HB9:=Aside0.mk (below_then HB8.out HB8.out.size hb9);have HK9:=Aside0.mk (blk_below HK8.out hb9);have HO9:=Aside0.mk ho9;clear ho9 hb9;obtain ⟨Ao9,co9,eo9⟩:=Kd.R_slice HO9.out;subst eo9)
    |(go_at_call 38;refine (impl_first.calls k _ _ ys code _ (Kd.R_reads' HO9.out).2.2 (Kd.R_reads' HO9.out).2.1 HF.out).mono ?_;rintro e w10 ⟨rfl,hb10⟩;have HB10:=Aside0.mk (below_then HB9.out HB9.out.size hb10);clear hb10))
   go_ret2
   exact ⟨rfl,HB10.out⟩
end Go.Proofs.YtlmohkbimnhecaaGreat.Q
