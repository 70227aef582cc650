import Derived.Test.YtlmohkbimnhecaaGreatQ0
import Derived.Test.YtlmohkbimnhecaaGreatSq
import Derived.Test.YtlmohkbimnhecaaGreatQ2
import Derived.Test.YtlmohkbimnhecaaGreatQ3
import Derived.Test.YtlmohkbimnhecaaGreatQ4
import Derived.Test.YtlmohkbimnhecaaGreatQ5
import Derived.Test.YtlmohkbimnhecaaGreatOutClone
import Derived.Test.YtlmohkbimnhecaaGreatOutPoints
import Derived.Test.YtlmohkbimnhecaaGreatOutRepeat
set_option maxHeartbeats 8000000
set_option maxRecDepth 100000
namespace Go.Proofs.YtlmohkbimnhecaaGreat.Q
open Go.RowKit Go.Proofs.YtlmohkbimnhecaaGreatW.PrintWords Go.Proofs.YtlmohkbimnhecaaGreatW.PrintLast Go.Proofs.YtlmohkbimnhecaaGreatW.PrintMore
attribute [local go_sem] max2_int min2_int max_two min_two max_three min_three max_four min_four
set_option linter.unusedVariables false
set_option linter.unusedSimpArgs false
mutual
def impl_ColourPoint.j0:Nat→Int→Int→Int→Int→Int→Int→Int→Int→Option (Int×Int×Int×Int×Int)
 |0,_,_,_,_,_,_,_,_=>none
 |k+1,x1,x2,x3,x10,x417000,x417001,x417002,x417003=>if x10=0 then ((impl_Field_points.f k x417000 x417001 x417002 x417003 x1 x2).bind fun t425=>((slices_Contains_int64_int64.f k t425 x3).bind fun t428=>(impl_ColourPoint.j1 k x2 x3 x10 (!t428) x417000 x417001 x417002 x417003))) else (impl_ColourPoint.j1 k x2 x3 x10 false x417000 x417001 x417002 x417003)
def impl_ColourPoint.j1:Nat→Int→Int→Int→Bool→Int→Int→Int→Int→Option (Int×Int×Int×Int×Int)
 |0,_,_,_,_,_,_,_,_=>none
 |k+1,x2,x3,x10,x38,x417000,x417001,x417002,x417003=>if x38=true then (some (0,0,0,0,5)) else (if x10=0 then ((impl_Field_coloured.f x417000 x417001 x417002 x417003 x2 x3).bind fun bt429=>(some (bt429.1,bt429.2.1,bt429.2.2.1,bt429.2.2.2,0))) else (some (0,0,0,0,x10)))
end
def impl_ColourPoint.f (k:Nat) (a0_0:Int) (a0_1:Int) (a0_2:Int) (a0_3:Int) (a1:Int) (a2:Int) (a3:Int):Option (Int×Int×Int×Int×Int):=(impl_IsField.f a0_0 a0_1 a0_2 a0_3).bind fun t418=>((impl_within.f a3 0 (wrap64 (a0_0-1))).bind fun t419=>((impl_first.f k (([(⟨t418,1⟩:S70),(⟨t419,2⟩:S70)]:List (S70)))).bind fun t423=>(if t423=0 then ((impl_fieldCode.f k a0_0 a0_1 a0_2 a0_3 a1 a2).bind fun t424=>(impl_ColourPoint.j0 k a1 a2 a3 t424 a0_0 a0_1 a0_2 a0_3)) else (impl_ColourPoint.j0 k a1 a2 a3 t423 a0_0 a0_1 a0_2 a0_3))))
def impl_ColourPoint.T1:Bool×List (List Nat×List Nat):=(true,[([],[]),([0],[0]),([1],[1]),([],[]),([],[]),([4],[4]),([5],[5]),([3,6,1],[3,6]),([7],[7]),([2,8],[2,8]),([9,7],[9]),([10,10,0,1,2,3,4,5,6,7,8,9,10],[10])])
def impl_ColourPoint.B1:List Nat:=[0,1,3,0,0,16,48,123,251,511,1023,2047]
theorem impl_ColourPoint.tab1:rtab .any (opsOf Tryz.f13 1)=impl_ColourPoint.T1:=by kernel_rfl
theorem impl_ColourPoint.bits1:waitsOk impl_ColourPoint.T1.2 impl_ColourPoint.B1=true:=by kernel_rfl
theorem impl_ColourPoint.calls (k:Nat) (a0_0:Int) (a0_1:Int) (a0_2:Int) (a0_3:Int) (a1:Int) (a2:Int) (a3:Int) (r1:Int) (r2:Int) (r3:Int) (r4:Int) (r5:Int) (w:World) (h:impl_ColourPoint.f k a0_0 a0_1 a0_2 a0_3 a1 a2 a3=some (r1,r2,r3,r4,r5)):
 Calls Tryz.prog 13 #[.agg #[.int .i64 a0_0,.int .i64 a0_1,.int .i64 a0_2,.int .i64 a0_3],.int .i64 a1,.int .i64 a2,.int .i64 a3] w fun e w'=>e=.returned (.tuple #[.agg #[.int .i64 r1,.int .i64 r2,.int .i64 r3,.int .i64 r4],.int .i64 r5])∧Below w.heap.size w w':=by
 have hu25:=Tryz.underlying25
 have hu70:=Tryz.underlying70
 have HB:=Aside0.mk (Below.refl w.heap.size w)
 have H:((impl_IsField.f a0_0 a0_1 a0_2 a0_3).bind fun t418=>((impl_within.f a3 0 (wrap64 (a0_0-1))).bind fun t419=>((impl_first.f k (([(⟨t418,1⟩:S70),(⟨t419,2⟩:S70)]:List (S70)))).bind fun t423=>(if t423=0 then ((impl_fieldCode.f k a0_0 a0_1 a0_2 a0_3 a1 a2).bind fun t424=>(impl_ColourPoint.j0 k a1 a2 a3 t424 a0_0 a0_1 a0_2 a0_3)) else (impl_ColourPoint.j0 k a1 a2 a3 t423 a0_0 a0_1 a0_2 a0_3)))))=some (r1,r2,r3,r4,r5):=h
 clear h
 obtain ⟨t418,A5,H⟩:=zb H
 obtain ⟨t419,A6,H⟩:=zb H
 obtain ⟨y420,hy420⟩:∃ y_:List (S70),y_=(([(⟨t418,1⟩:S70),(⟨t419,2⟩:S70)]:List (S70))):=⟨_,rfl⟩
 replace H:((impl_first.f k y420).bind fun t423=>(if t423=0 then ((impl_fieldCode.f k a0_0 a0_1 a0_2 a0_3 a1 a2).bind fun t424=>(impl_ColourPoint.j0 k a1 a2 a3 t424 a0_0 a0_1 a0_2 a0_3)) else (impl_ColourPoint.j0 k a1 a2 a3 t423 a0_0 a0_1 a0_2 a0_3)))=some (r1,r2,r3,r4,r5):=by first|(rw [hy420];with_reducible exact H)|(have H2_:=(Option.bind_some _ _).symm.trans H;rw [hy420];with_reducible exact H2_)|(have H2_:=(Option.bind_some _ _).symm.trans H;with_reducible exact H2_)|with_reducible exact H|(rw [hy420];exact H)|exact H
 have Ny420:=Aside0.mk hy420
 clear hy420
 obtain ⟨t423,A7,H⟩:=zb H
 have HC8:=Aside0.mk H
 clear H
 go_enter Tryz.func13,Tryz.ntmps13
 try go_wp2_with (first|((with_reducible refine gate_dst (N:=4) rfl ?_);refine zX 4 #[.int .i64 a0_0,.int .i64 a0_1,.int .i64 a0_2,.int .i64 a0_3] 25 ?_;intro gb416 hg w9 hbox hb;refine zA4 (below_step (zH HB.1) hb) (hbox) (zs hg HB:w.heap.size≤gb416) (zs hg HB:w.heap.size≤gb416) ?_;clear HB;intro HB BK416 GW416 GE416;clear hb hbox hg)|((with_reducible refine gate_dst (N:=8) rfl ?_);refine zX 8 #[.int .i64 0,.int .i64 0,.int .i64 0,.int .i64 0] 25 ?_;intro gb417 hg w10 hbox hb;refine zA7 (zY BK416.1 hb) (below_step (zH1 HB.1 GE416.1) hb) (hbox) ((zS hg (below_size (zH1 HB.1 GE416.1)):w.heap.size≤gb417)) ((zS hg (below_size (zH1 HB.1 GE416.1)):w.heap.size≤gb417)) ((zl hg (blk_lt (g:=gb416) (o:=.cells #[.int .i64 a0_0,.int .i64 a0_1,.int .i64 a0_2,.int .i64 a0_3] 25 (0,0)) (zB BK416.1)):gb416≠gb417)) ((zg hg (blk_lt (g:=gb416) (o:=.cells #[.int .i64 a0_0,.int .i64 a0_1,.int .i64 a0_2,.int .i64 a0_3] 25 (0,0)) (zB BK416.1)):gb417≠gb416)) ?_;clear BK416 HB;intro BK416 HB BK417 GW417 GE417 NB416_417 NB417_416;clear hb hbox hg))
 refine zA3 (blk_drew BK416.1) (blk_drew BK417.1) (below_drew1 HB.1) ?_
 clear BK416 BK417 HB
 intro BK416 BK417 HB
 refine start_ (n:=12) (S:=fun w'=>w'.cell? ⟨gb416,0,none⟩=some (.int .i64 a0_0)∧w'.cell? ⟨gb416,1,none⟩=some (.int .i64 a0_1)∧w'.cell? ⟨gb416,2,none⟩=some (.int .i64 a0_2)∧w'.cell? ⟨gb416,3,none⟩=some (.int .i64 a0_3)) (ds:=[]) #[false,false,false,false,false,false,false,false,false,false,false,false] (by kernel_rfl) rfl rfl ⟨zx BK416 0,zx BK416 1,zx BK416 2,zx BK416 3⟩ (fun hHeld=>?_);refine with_tabW impl_ColourPoint.tab1 impl_ColourPoint.bits1 (fun HT_ HW_=>?_)
 generalize w10.drew=w11 at BK416 BK417 HB hHeld ⊢
 refine zP HT_ 3 (some 14) rfl rfl ?_
 refine zP HT_ 4 (some 15) rfl rfl ?_
 refine zT HT_ HW_ hHeld 0 (some 11) rfl rfl ?_
 refine zT HT_ HW_ hHeld 5 (some 16) rfl rfl ?_
 refine zP HT_ 6 (some 17) rfl rfl ?_
 refine one_ (i:=1) (N:=some 12) #[true,true,false,true,true,true,true,false,false,false,false,false] rfl rfl (one_of HT_.1 (by kernel_rfl)) (by decide) (fun K hK=>?_)
 refine goes_ Tryz.func37 (by kernel_rfl) rfl #[.agg #[.int .i64 a0_0,.int .i64 a0_1,.int .i64 a0_2,.int .i64 a0_3]] (by rfl) rfl rfl zM ?_
 with_reducible refine (impl_IsField.calls a0_0 a0_1 a0_2 a0_3 t418 _ A5.1).mono ?_
 rintro e w12 ⟨rfl,hb⟩
 refine ⟨_,rfl,?_⟩
 refine zA3 (zY BK416.1 hb) (zY BK417.1 hb) (below_step (zH2 HB.1 GE416.1 GE417.1) hb) ?_
 clear BK416 BK417 HB
 intro BK416 BK417 HB
 (try clear hb)
 (try clear hb2)
 (try clear hk)
 (try clear hi)
 refine hK.out _ _ ⟨zx BK416 0,zx BK416 1,zx BK416 2,zx BK416 3⟩ (fun hHeld=>?_)
 clear hK K
 refine zW (some 12) ?_
 refine zP HT_ 2 (some 13) rfl rfl ?_
 refine one_ (i:=7) (N:=some 18) #[true,true,true,true,true,true,true,true,false,false,false,false] rfl rfl (one_of HT_.1 (by kernel_rfl)) (by decide) (fun K hK=>?_)
 refine goes_ Tryz.func39 (by kernel_rfl) rfl #[.int .i64 a3,.int .i64 0,.int .i64 (wrap64 (a0_0-1))] (by rfl) rfl rfl zM ?_
 with_reducible refine (impl_within.calls a3 0 (wrap64 (a0_0-1)) t419 _ A6.1).mono ?_
 rintro e w' ⟨rfl,⟨nd,rfl⟩⟩
 refine ⟨_,rfl,?_⟩
 refine hK.out _ _ ⟨zx BK416 0,zx BK416 1,zx BK416 2,zx BK416 3⟩ (fun hHeld=>?_)
 clear hK K
 refine zW (some 18) ?_
 refine zP HT_ 8 (some 19) rfl rfl ?_
 refine one_ (i:=9) (N:=some 20) #[true,true,true,true,true,true,true,true,true,true,false,false] rfl rfl (one_of HT_.1 (by kernel_rfl)) (by decide) (fun K hK=>?_)
 refine Kd.R_lit_step k70 _ 70 ?hg (N:=20) ?hd (xs:=([(⟨t418,1⟩:S70),(⟨t419,2⟩:S70)]:List (S70))) (inner:=[.bool t418,.int .i64 1,.bool t419,.int .i64 2]) (ok:=fun _=>True) (okp:=fun _=>True) ?hr ?hp (fun _ hk=>hk) trivial (Below.refl _ _) (Nat.le_refl _) (by simp) ?_;(case hd=>rfl);(case hg=>rfl);(case hr=>first|(go_simp;done)|(go_simp;rfl));(case hp=>exact (Reps.c2 (show Kd.M k70 _ _ _ (⟨t418,1⟩:S70) [.bool t418,.int .i64 1] from (k70_mkM _ _ _ (⟨t418,1⟩:S70) )) (Reps.c2 (show Kd.M k70 _ _ _ (⟨t419,2⟩:S70) [.bool t419,.int .i64 2] from (k70_mkM _ _ _ (⟨t419,2⟩:S70) )) (Reps.none _ _))))
 intro v421 w13 ho14 hb hg_ hnew_
 clear hg_ hnew_
 (first|rw [← Ny420.1] at ho14|(simp only [Int.reduceToNat] at ho14;rw [← Ny420.1] at ho14))
 refine zA4 (Kd.R_lower ho14 (below_size (zH2 HB.1 GE416.1 GE417.1))) (zY BK416.1 hb) (zY BK417.1 hb) (below_step (zH2 HB.1 GE416.1 GE417.1) hb) ?_
 clear BK416 BK417 HB
 intro HO422 BK416 BK417 HB
 clear hb ho14
 obtain ⟨Ao15,co15,eo15⟩:=Kd.R_slice HO422.1
 (first|subst eo15|(injection eo15 with f1_ f2_ f3_;have f4_:=f1_.symm;have f5_:=f3_.symm;clear f1_ f2_ f3_;subst f4_;subst f5_))
 refine hK.out _ _ ⟨zx BK416 0,zx BK416 1,zx BK416 2,zx BK416 3⟩ (fun hHeld=>?_)
 clear hK K
 refine zW (some 20) ?_
 refine one_ (i:=10) (N:=some 21) #[true,true,true,true,true,true,true,true,true,true,true,false] rfl rfl (one_of HT_.1 (by kernel_rfl)) (by decide) (fun K hK=>?_)
 refine goes_ Tryz.func38 (by kernel_rfl) rfl #[.slice Ao15 y420.length co15] (by rfl) rfl rfl zM ?_
 with_reducible refine (impl_first.calls k _ _ y420 t423 _ ?side1 ?side2 A7.1).mono ?_
 (case side1=>repeat (first|exact (Kd.R_reads' HO422.1).2.2|(with_reducible refine Kd.C_alloc ?_ _)|(with_reducible refine Kd.C_drewN ?_ _)|(with_reducible refine Kd.C_drew ?_)))
 (case side2=>exact (Kd.R_reads' HO422.1).2.1)
 rintro e w16 ⟨rfl,hb⟩
 refine ⟨_,rfl,?_⟩
 refine zA4 (Kd.R_below (zR HO422.1) hb) (zY BK416.1 hb) (zY BK417.1 hb) (below_step (zH2 HB.1 GE416.1 GE417.1) hb) ?_
 clear HO422 BK416 BK417 HB
 intro HO422 BK416 BK417 HB
 (try clear hb)
 (try clear hb2)
 (try clear hk)
 (try clear hi)
 refine hK.out _ _ ⟨zx BK416 0,zx BK416 1,zx BK416 2,zx BK416 3⟩ (fun hHeld=>?_)
 clear hK K
 refine zW (some 21) ?_
 refine zP HT_ 11 (some 10) rfl rfl ?_
 refine done_ (done_of HT_.1 (by kernel_rfl)) ?_
 go_upto_if 23 with (fail)
 go_cut [10] (fun v10 wc=>∃ (kq:Nat) (x10_7:Int),v10=.int .i64 x10_7∧Aside0 (impl_ColourPoint.j0 kq a1 a2 a3 x10_7 a0_0 a0_1 a0_2 a0_3=some (r1,r2,r3,r4,r5))∧Aside0 (kq≤k)∧Aside0 (wc.heap[gb416]?=some (.cells #[.int .i64 a0_0,.int .i64 a0_1,.int .i64 a0_2,.int .i64 a0_3] 25 (0,0)))∧Aside0 (wc.heap[gb417]?=some (.cells #[.int .i64 0,.int .i64 0,.int .i64 0,.int .i64 0] 25 (0,0)))∧Aside0 (Below w.heap.size w wc))
 case first=>
  have H:=HC8.1
  clear HC8
  by_cases c17:t423=0
  ·rw [if_pos c17] at H
   have c17b0:=zq1 c17
   have c17b1:=zq2 c17
   clear c17
   (first|rw [c17b0]|(simp only [i64_w,i32_w];rw [c17b0])|skip)
   obtain ⟨t424,A18,H⟩:=zb H
   have H':=Aside0.mk H
   clear H
   have hnb19:=NB416_417.1
   have hnc19:=NB417_416.1
   obtain ⟨Z20_0,Z20_1,Z20_2,Z20_3⟩:=zc4 BK416
   obtain ⟨V20_0,V20_1,V20_2,V20_3⟩:=zf4 BK416
   go_wp2_with (first|((with_reducible refine gate_callee (f:=27) rfl ?_);refine zL (some 27) Tryz.func27 #[.agg #[.int .i64 a0_0,.int .i64 a0_1,.int .i64 a0_2,.int .i64 a0_3],.int .i64 a1,.int .i64 a2] ?_;(with_reducible refine (impl_fieldCode.calls k a0_0 a0_1 a0_2 a0_3 a1 a2 t424 _ A18.1).mono ?_);rintro e w21 ⟨rfl,hb⟩;refine ⟨_,rfl,?_⟩;refine zA4 (Kd.R_below (zR HO422.1) hb) (zY BK416.1 hb) (zY BK417.1 hb) (below_step (zH2 HB.1 GE416.1 GE417.1) hb) ?_;clear HO422 BK416 BK417 HB;intro HO422 BK416 BK417 HB;(try clear hb)))
   go_meet
   case rel=>exact ⟨_,(t424),(zF),H',⟨by first|omega|exact Nat.le_refl _⟩,⟨zB BK416.1⟩,⟨zB BK417.1⟩,⟨zH2 HB.1 GE416.1 GE417.1⟩⟩
  ·rw [if_neg c17] at H
   have c17b0:=zq3 c17
   have c17b1:=zq4 c17
   (first|rw [c17b0]|(simp only [i64_w,i32_w];rw [c17b0])|skip)
   have H':=Aside0.mk H
   clear H
   go_wp2
   go_meet
   case rel=>exact ⟨_,(t423),(zF),H',⟨by first|omega|exact Nat.le_refl _⟩,⟨zB BK416.1⟩,⟨zB BK417.1⟩,⟨zH2 HB.1 GE416.1 GE417.1⟩⟩
 case rest=>
  clear HC8
  try clear c1
  try clear c2
  try clear p2
  try clear c3
  try clear p6
  try clear c13
  try clear c17
  try clear c17b0
  try clear c17b1
  try clear c19
  try clear Z20_0 Z20_1 Z20_2 Z20_3 V20_0 V20_1 V20_2 V20_3
  obtain ⟨kq,x10_7,rfl,HA,HJ7,BK416,BK417,HB⟩:=hcut
  cases kq with
  |zero=>exact absurd HA.1 (by simp [impl_ColourPoint.j0])
  |succ kj7=>
   have H:=HA.1
   clear HA
   simp only [impl_ColourPoint.j0] at H
   have HC22:=Aside0.mk H
   clear H
   go_upto_region 4 with (fail)
   go_cut [38] (fun v38 wc=>∃ (kq:Nat) (x38_21:Bool),v38=.bool x38_21∧Aside0 (impl_ColourPoint.j1 kq a2 a3 x10_7 x38_21 a0_0 a0_1 a0_2 a0_3=some (r1,r2,r3,r4,r5))∧Aside0 (kq≤kj7)∧Aside0 (wc.heap[gb416]?=some (.cells #[.int .i64 a0_0,.int .i64 a0_1,.int .i64 a0_2,.int .i64 a0_3] 25 (0,0)))∧Aside0 (wc.heap[gb417]?=some (.cells #[.int .i64 0,.int .i64 0,.int .i64 0,.int .i64 0] 25 (0,0)))∧Aside0 (Below w.heap.size w wc))
   case first=>
    have H:=HC22.1
    clear HC22
    by_cases c23:x10_7=0
    ·rw [if_pos c23] at H
     have c23b0:=zq1 c23
     have c23b1:=zq2 c23
     clear c23
     (first|rw [c23b0]|(simp only [i64_w,i32_w];rw [c23b0])|skip)
     obtain ⟨t425,A24,H⟩:=zb H
     obtain ⟨t428,A25,H⟩:=zb H
     have H':=Aside0.mk H
     clear H
     have hnb26:=NB416_417.1
     have hnc26:=NB417_416.1
     obtain ⟨Z27_0,Z27_1,Z27_2,Z27_3⟩:=zc4 BK416
     obtain ⟨V27_0,V27_1,V27_2,V27_3⟩:=zf4 BK416
     go_wp2_with (first|(go_at_call 30;(with_reducible refine (impl_Field_points.calls kj7 a0_0 a0_1 a0_2 a0_3 a1 a2 t425 _ A24.1).mono ?_);rintro e w28 ⟨v426,rfl,ho0,hb⟩;refine zA4 (Kd.R_lower ho0 (below_size (zH2 HB.1 GE416.1 GE417.1))) (zY BK416.1 hb) (zY BK417.1 hb) (below_step (zH2 HB.1 GE416.1 GE417.1) hb) ?_;clear BK416 BK417 HB;intro HO427 BK416 BK417 HB;(try clear hb);(try clear ho0);obtain ⟨Ao29,co29,eo29⟩:=Kd.R_slice HO427.1;subst eo29)|(go_at_call 40;(with_reducible refine (slices_Contains_int64_int64.calls kj7 _ _ t425 a3 t428 _ ?side1 ?side2 A25.1).mono ?_);(case side1=>repeat (first|exact (Kd.R_reads' HO427.1).2.2|(with_reducible refine Kd.C_alloc ?_ _)|(with_reducible refine Kd.C_drewN ?_ _)|(with_reducible refine Kd.C_drew ?_)));(case side2=>exact (Kd.R_reads' HO427.1).2.1);rintro e w' ⟨rfl,⟨nd,rfl⟩⟩))
     go_meet
     case rel=>exact ⟨_,(!t428),(zF),H',⟨by have:=HJ7.1;first|omega|exact Nat.le_refl _⟩,⟨zB BK416.1⟩,⟨zB BK417.1⟩,⟨zH2 HB.1 GE416.1 GE417.1⟩⟩
    ·rw [if_neg c23] at H
     have c23b0:=zq3 c23
     have c23b1:=zq4 c23
     (first|rw [c23b0]|(simp only [i64_w,i32_w];rw [c23b0])|skip)
     have H':=Aside0.mk H
     clear H
     go_wp2
     go_meet
     case rel=>exact ⟨_,(false),(zF),H',⟨by have:=HJ7.1;first|omega|exact Nat.le_refl _⟩,⟨zB BK416.1⟩,⟨zB BK417.1⟩,⟨zH2 HB.1 GE416.1 GE417.1⟩⟩
   case rest=>
    clear HC22
    try clear c1
    try clear c2
    try clear p2
    try clear c3
    try clear p6
    try clear c13
    try clear c17
    try clear c17b0
    try clear c17b1
    try clear c19
    try clear c23
    try clear c23b0
    try clear c23b1
    try clear c26
    try clear c27
    try clear Z20_0 Z20_1 Z20_2 Z20_3
    try clear Z27_0 Z27_1 Z27_2 Z27_3
    try clear V20_0 V20_1 V20_2 V20_3
    try clear V27_0 V27_1 V27_2 V27_3
    try clear p2
    try clear p6
    obtain ⟨kq,x38_21,rfl,HA,HJ21,BK416,BK417,HB⟩:=hcut
    cases kq with
    |zero=>exact absurd HA.1 (by simp [impl_ColourPoint.j1])
    |succ kj21=>
     have H:=HA.1
     clear HA
     simp only [impl_ColourPoint.j1] at H
     by_cases c30:x38_21=true
     ·subst c30
      have H1:(some (0,0,0,0,5))=some (r1,r2,r3,r4,r5):=by rw [if_pos rfl] at H;exact H
      clear H
      have H:=H1
      clear H1
      simp only [Option.some.injEq,Prod.mk.injEq] at H
      obtain ⟨rfl,rfl,rfl,rfl,rfl⟩:=H
      have hnb31:=NB417_416.1
      have hnc31:=NB416_417.1
      obtain ⟨Z32_0,Z32_1,Z32_2,Z32_3⟩:=zc4 BK417
      obtain ⟨V32_0,V32_1,V32_2,V32_3⟩:=zf4 BK417
      go_wp2
      refine bodyPost_ret (results_ct rfl _ _ gb417 25 #[.int .i64 0,.int .i64 0,.int .i64 0,.int .i64 0] (0,0) _ rfl (zQ BK417.1) Tryz.underlying25 rfl (by kernel_rfl)) rfl ?_
      exact ⟨zE,zH2 HB.1 GE416.1 GE417.1⟩
     ·replace c30:=Bool.eq_false_iff.mpr c30
      subst c30
      have H1:(if x10_7=0 then ((impl_Field_coloured.f a0_0 a0_1 a0_2 a0_3 a2 a3).bind fun bt429=>(some (bt429.1,bt429.2.1,bt429.2.2.1,bt429.2.2.2,0))) else (some (0,0,0,0,x10_7)))=some (r1,r2,r3,r4,r5):=by rw [if_neg (show ¬ (false=true) by decide)] at H;exact H
      clear H
      have H:=H1
      clear H1
      by_cases c33:x10_7=0
      ·rw [if_pos c33] at H
       have c33b0:=zq1 c33
       have c33b1:=zq2 c33
       clear c33
       obtain ⟨⟨t429,t430,t431,t432⟩,A34,H⟩:=zb H;(try dsimp only at H)
       simp only [Option.some.injEq,Prod.mk.injEq] at H
       obtain ⟨rfl,rfl,rfl,rfl,rfl⟩:=H
       have hnb35:=NB416_417.1
       have hnc35:=NB417_416.1
       obtain ⟨Z36_0,Z36_1,Z36_2,Z36_3⟩:=zc4 BK416
       obtain ⟨V36_0,V36_1,V36_2,V36_3⟩:=zf4 BK416
       go_wp2_with (first|((with_reducible refine gate_callee (f:=31) rfl ?_);refine zL (some 46) Tryz.func31 #[.agg #[.int .i64 a0_0,.int .i64 a0_1,.int .i64 a0_2,.int .i64 a0_3],.int .i64 a2,.int .i64 a3] ?_;(with_reducible refine (impl_Field_coloured.calls a0_0 a0_1 a0_2 a0_3 a2 a3 t429 t430 t431 t432 _ A34.1).mono ?_);rintro e w37 ⟨rfl,hb⟩;refine ⟨_,rfl,?_⟩;refine zA3 (zY BK416.1 hb) (zY BK417.1 hb) (below_step (zH2 HB.1 GE416.1 GE417.1) hb) ?_;clear BK416 BK417 HB;intro BK416 BK417 HB;(try clear hb);obtain ⟨Z38_0,Z38_1,Z38_2,Z38_3⟩:=zc4 BK417;obtain ⟨V38_0,V38_1,V38_2,V38_3⟩:=zf4 BK417))
       refine bodyPost_ret (results_ct rfl _ _ gb417 25 #[.int .i64 t429,.int .i64 t430,.int .i64 t431,.int .i64 t432] (0,0) _ rfl (zQ BK417.1) Tryz.underlying25 rfl (by kernel_rfl)) rfl ?_
       exact ⟨zE,zH2 HB.1 GE416.1 GE417.1⟩
      ·rw [if_neg c33] at H
       have c33b0:=zq3 c33
       have c33b1:=zq4 c33
       simp only [Option.some.injEq,Prod.mk.injEq] at H
       obtain ⟨rfl,rfl,rfl,rfl,rfl⟩:=H
       have hnb39:=NB417_416.1
       have hnc39:=NB416_417.1
       obtain ⟨Z40_0,Z40_1,Z40_2,Z40_3⟩:=zc4 BK417
       obtain ⟨V40_0,V40_1,V40_2,V40_3⟩:=zf4 BK417
       go_wp2
       refine bodyPost_ret (results_ct rfl _ _ gb417 25 #[.int .i64 0,.int .i64 0,.int .i64 0,.int .i64 0] (0,0) _ rfl (zQ BK417.1) Tryz.underlying25 rfl (by kernel_rfl)) rfl ?_
       exact ⟨zE,zH2 HB.1 GE416.1 GE417.1⟩
def impl_PointsFor.f (k:Nat) (a0_0:Int) (a0_1:Int) (a0_2:Int) (a0_3:Int) (a1:Int) (a2:Int):Option (List Int×Int):=(impl_fieldCode.f k a0_0 a0_1 a0_2 a0_3 a1 a2).bind fun t434=>(if t434=0 then ((impl_Field_points.f k a0_0 a0_1 a0_2 a0_3 a1 a2).bind fun t435=>(some (t435,0))) else (some (([]:List Int),t434)))
theorem impl_PointsFor.calls (k:Nat) (a0_0:Int) (a0_1:Int) (a0_2:Int) (a0_3:Int) (a1:Int) (a2:Int) (r1:List Int) (r2:Int) (w:World) (h:impl_PointsFor.f k a0_0 a0_1 a0_2 a0_3 a1 a2=some (r1,r2)):
 Calls Tryz.prog 14 #[.agg #[.int .i64 a0_0,.int .i64 a0_1,.int .i64 a0_2,.int .i64 a0_3],.int .i64 a1,.int .i64 a2] w fun e w'=>∃ v0_:Value,e=.returned (.tuple #[v0_,.int .i64 r2])∧Kd.R (Kd.int .i64) 2 w' w.heap.size (fun _=>True) v0_ r1∧Below w.heap.size w w':=by
 have hu25:=Tryz.underlying25
 have HB:=Aside0.mk (Below.refl w.heap.size w)
 have H:((impl_fieldCode.f k a0_0 a0_1 a0_2 a0_3 a1 a2).bind fun t434=>(if t434=0 then ((impl_Field_points.f k a0_0 a0_1 a0_2 a0_3 a1 a2).bind fun t435=>(some (t435,0))) else (some (([]:List Int),t434))))=some (r1,r2):=h
 clear h
 obtain ⟨t434,A4,H⟩:=zb H
 by_cases c5:t434=0
 ·rw [if_pos c5] at H
  have c5b0:=zq1 c5
  have c5b1:=zq2 c5
  clear c5
  obtain ⟨t435,A6,H⟩:=zb H
  simp only [Option.some.injEq,Prod.mk.injEq] at H
  obtain ⟨rfl,rfl⟩:=H
  go_enter Tryz.func14,Tryz.ntmps14
  go_wp2_with (first|((with_reducible refine gate_dst (N:=3) rfl ?_);refine zX 3 #[.int .i64 a0_0,.int .i64 a0_1,.int .i64 a0_2,.int .i64 a0_3] 25 ?_;intro gb433 hg w7 hbox hb;refine zA4 (below_step (zH HB.1) hb) (hbox) (zs hg HB:w.heap.size≤gb433) (zs hg HB:w.heap.size≤gb433) ?_;clear HB;intro HB BK433 GW433 GE433;clear hb hbox hg;obtain ⟨Z8_0,Z8_1,Z8_2,Z8_3⟩:=zc4 BK433;obtain ⟨V8_0,V8_1,V8_2,V8_3⟩:=zf4 BK433)|((with_reducible refine gate_callee (f:=27) rfl ?_);refine zL (some 12) Tryz.func27 #[.agg #[.int .i64 a0_0,.int .i64 a0_1,.int .i64 a0_2,.int .i64 a0_3],.int .i64 a1,.int .i64 a2] ?_;(with_reducible refine (impl_fieldCode.calls k a0_0 a0_1 a0_2 a0_3 a1 a2 t434 _ A4.1).mono ?_);rintro e w9 ⟨rfl,hb⟩;refine ⟨_,rfl,?_⟩;refine zA2 (zY BK433.1 hb) (below_step (zH1 HB.1 GE433.1) hb) ?_;clear BK433 HB;intro BK433 HB;(try clear hb);obtain ⟨Z10_0,Z10_1,Z10_2,Z10_3⟩:=zc4 BK433;obtain ⟨V10_0,V10_1,V10_2,V10_3⟩:=zf4 BK433)|((with_reducible refine gate_callee (f:=30) rfl ?_);refine zL (some 19) Tryz.func30 #[.agg #[.int .i64 a0_0,.int .i64 a0_1,.int .i64 a0_2,.int .i64 a0_3],.int .i64 a1,.int .i64 a2] ?_;(with_reducible refine (impl_Field_points.calls k a0_0 a0_1 a0_2 a0_3 a1 a2 t435 _ A6.1).mono ?_);rintro e w11 ⟨v436,rfl,ho0,hb⟩;refine ⟨_,rfl,?_⟩;refine zA3 (Kd.R_lower ho0 (below_size (zH1 HB.1 GE433.1))) (zY BK433.1 hb) (below_step (zH1 HB.1 GE433.1) hb) ?_;clear BK433 HB;intro HO437 BK433 HB;(try clear hb);(try clear ho0)))
  go_ret2
  exact ⟨_,zE,by (with_reducible repeat (first|apply Kd.R_alloc|apply Kd.R_drewN|apply Kd.R_drew));exact HO437.1,zH1 HB.1 GE433.1⟩
 ·rw [if_neg c5] at H
  have c5b0:=zq3 c5
  have c5b1:=zq4 c5
  simp only [Option.some.injEq,Prod.mk.injEq] at H
  obtain ⟨rfl,rfl⟩:=H
  go_enter Tryz.func14,Tryz.ntmps14
  go_wp2_with (first|((with_reducible refine gate_dst (N:=3) rfl ?_);refine zX 3 #[.int .i64 a0_0,.int .i64 a0_1,.int .i64 a0_2,.int .i64 a0_3] 25 ?_;intro gb433 hg w12 hbox hb;refine zA4 (below_step (zH HB.1) hb) (hbox) (zs hg HB:w.heap.size≤gb433) (zs hg HB:w.heap.size≤gb433) ?_;clear HB;intro HB BK433 GW433 GE433;clear hb hbox hg;obtain ⟨Z13_0,Z13_1,Z13_2,Z13_3⟩:=zc4 BK433;obtain ⟨V13_0,V13_1,V13_2,V13_3⟩:=zf4 BK433)|((with_reducible refine gate_callee (f:=27) rfl ?_);refine zL (some 12) Tryz.func27 #[.agg #[.int .i64 a0_0,.int .i64 a0_1,.int .i64 a0_2,.int .i64 a0_3],.int .i64 a1,.int .i64 a2] ?_;(with_reducible refine (impl_fieldCode.calls k a0_0 a0_1 a0_2 a0_3 a1 a2 t434 _ A4.1).mono ?_);rintro e w14 ⟨rfl,hb⟩;refine ⟨_,rfl,?_⟩;refine zA2 (zY BK433.1 hb) (below_step (zH1 HB.1 GE433.1) hb) ?_;clear BK433 HB;intro BK433 HB;(try clear hb)))
  go_ret2
  exact ⟨_,zE,by first|exact Kd.R_nil _ _ _ _ _|exact Kd.N_nil _ _ _ _ _|exact Kd.V_nil _ _ _ _ _|exact Kd.Q_nil _ _ _ _ _|exact Kd.S_nil _ _ _ _ _,zH1 HB.1 GE433.1⟩
mutual
def impl_Field_matchFrom.l0:Nat→List Int→Int→Int→Int→Int→Int→Int→Option (List Int×Bool)
 |0,_,_,_,_,_,_,_=>none
 |k+1,x1,x6,x7,x477000,x477001,x477002,x477003=>if x7<x477000 then ((impl_Field_colour.f x477000 x477001 x477002 x477003 x6).bind fun t479=>((impl_Field_colour.f x477000 x477001 x477002 x477003 x7).bind fun t480=>(if 0≤x7 then (if x7<(x1.length:Int) then (if (rd x1 x7)≥0 then (impl_Field_matchFrom.j1 k x1 x6 x7 true x477000 x477001 x477002 x477003) else ((impl_Field_joins.f x477000 x477001 x477002 x477003 x6 x7).bind fun t482=>(if t482=true then (impl_Field_matchFrom.j1 k x1 x6 x7 true x477000 x477001 x477002 x477003) else (if t479=t480 then (impl_Field_matchFrom.j1 k x1 x6 x7 (t479 !=0) x477000 x477001 x477002 x477003) else (if (wrap64 (t479*t480))=2 then (impl_Field_matchFrom.j1 k x1 x6 x7 false x477000 x477001 x477002 x477003) else (impl_Field_matchFrom.j1 k x1 x6 x7 true x477000 x477001 x477002 x477003)))))) else (none)) else (none)))) else (some (([]:List Int),false))
def impl_Field_matchFrom.j1:Nat→List Int→Int→Int→Bool→Int→Int→Int→Int→Option (List Int×Bool)
 |0,_,_,_,_,_,_,_,_=>none
 |k+1,x1,x6,x7,x65,x477000,x477001,x477002,x477003=>if x65=true then (impl_Field_matchFrom.l0 k x1 x6 (wrap64 (x7+1)) x477000 x477001 x477002 x477003) else ((slices_Clone_int64_int64.f x1).bind fun t483=>(if 0≤x6 then (if x6<(t483.length:Int) then (if 0≤x7 then (if x7<(t483.length:Int) then ((impl_Field_matchFrom.f k x477000 x477001 x477002 x477003 ((t483.set (x6:Int).toNat x7).set (x7:Int).toNat x6)).bind fun bt488=>(if bt488.2=true then (some (bt488.1,true)) else (impl_Field_matchFrom.l0 k x1 x6 (wrap64 (x7+1)) x477000 x477001 x477002 x477003))) else (none)) else (none)) else (none)) else (none)))
def impl_Field_matchFrom.f:Nat→Int→Int→Int→Int→List Int→Option (List Int×Bool)
 |0,_,_,_,_,_=>none
 |k+1,a0_0,a0_1,a0_2,a0_3,l1=>(slices_Index_int64_int64.f k l1 (-1)).bind fun t477=>(if t477<0 then ((impl_Field_isMatching.f k a0_0 a0_1 a0_2 a0_3 l1).bind fun t478=>(some (l1,t478))) else (impl_Field_matchFrom.l0 k l1 t477 (wrap64 (t477+1)) a0_0 a0_1 a0_2 a0_3))
end
def impl_Field_matchFrom.T7:Bool×List (List Nat×List Nat):=(true,[([],[]),([],[]),([0,1],[0,1]),([],[]),([],[]),([3,4,2],[3,4]),([2,5,0,1,2],[2]),([5,6,0,1,2,3,4,5,6],[5])])
def impl_Field_matchFrom.B7:List Nat:=[0,0,3,0,0,31,63,127]
theorem impl_Field_matchFrom.tab7:rtab .any (opsOf Tryz.f45 7)=impl_Field_matchFrom.T7:=by kernel_rfl
theorem impl_Field_matchFrom.bits7:waitsOk impl_Field_matchFrom.T7.2 impl_Field_matchFrom.B7=true:=by kernel_rfl
theorem impl_Field_matchFrom.calls (k:Nat):∀ (a0_0:Int) (a0_1:Int) (a0_2:Int) (a0_3:Int) (P1_:Nat→Prop) (u9000_:Value) (l1:List Int) (r1:List Int) (r2:Bool) (w0 w:World) (hB:Below w0.heap.size w0 w) (ho1:Kd.R (Kd.int .i64) 2 w w0.heap.size P1_ u9000_ l1) (h:impl_Field_matchFrom.f k a0_0 a0_1 a0_2 a0_3 l1=some (r1,r2)),
 Calls Tryz.prog 45 #[.agg #[.int .i64 a0_0,.int .i64 a0_1,.int .i64 a0_2,.int .i64 a0_3],u9000_] w fun e w'=>∃ v0_:Value,e=.returned (.tuple #[v0_,.bool r2])∧Kd.R (Kd.int .i64) 2 w' w0.heap.size (fun k_=>(P1_ k_∨w.heap.size≤k_)) v0_ r1∧Below w0.heap.size w0 w'∧Kept w w' (fun k_=>P1_ k_):=by
 induction k using Nat.strongRecOn with
 |_ k ih=>
 intro a0_0 a0_1 a0_2 a0_3 P1_ u9000_ l1 r1 r2 w0 w hB ho1 h
 cases k with
 |zero=>exact absurd h (by simp [impl_Field_matchFrom.f])
 |succ k=>
 simp only [impl_Field_matchFrom.f] at h
 have hu25:=Tryz.underlying25
 have HO1:=Aside0.mk (show Kd.R (Kd.int .i64) 2 w w0.heap.size (fun k_=>(P1_ k_∨w.heap.size≤k_)) u9000_ l1 from Kd.R_mono ho1 (fun k_ hk=>(.inl hk)))
 have HK:=Aside0.mk (Kept.refl w (fun k_=>P1_ k_))
 have HW0:=Aside0.mk hB.size
 have HB:=Aside0.mk hB
 clear hB
 have H:((slices_Index_int64_int64.f k l1 (-1)).bind fun t477=>(if t477<0 then ((impl_Field_isMatching.f k a0_0 a0_1 a0_2 a0_3 l1).bind fun t478=>(some (l1,t478))) else (impl_Field_matchFrom.l0 k l1 t477 (wrap64 (t477+1)) a0_0 a0_1 a0_2 a0_3)))=some (r1,r2):=h
 clear h
 obtain ⟨t477,A3,H⟩:=zb H
 by_cases c4:t477<0
 ·rw [if_pos c4] at H
  have c4b0:=decide_eq_true c4
  clear c4
  obtain ⟨t478,A5,H⟩:=zb H
  simp only [Option.some.injEq,Prod.mk.injEq] at H
  obtain ⟨rfl,rfl⟩:=H
  go_enter Tryz.func45,Tryz.ntmps45
  go_wp2_with (first|((with_reducible refine gate_dst (N:=2) rfl ?_);refine zX 2 #[.int .i64 a0_0,.int .i64 a0_1,.int .i64 a0_2,.int .i64 a0_3] 25 ?_;intro gb476 hg w6 hbox hb;refine zA6 (Kd.R_below (zR HO1.1) hb) (Kept.below (S:=(fun k_=>P1_ k_)) (zK HK.1) hb) (below_step (zH HB.1) hb) (hbox) ((by rw [hg];exact (by first|exact HK.1.1|exact (show Kept w _ (fun k_=>P1_ k_) from zK HK.1).1):w.heap.size≤gb476)) ((zS hg (below_size (zH HB.1)):w0.heap.size≤gb476)) ?_;clear HO1 HK HB;intro HO1 HK HB BK476 GW476 GE476;clear hb hbox hg;obtain ⟨Ao7,co7,eo7⟩:=Kd.R_slice HO1.1;subst eo7)|((with_reducible refine gate_callee (f:=78) rfl ?_);refine zL (some 14) Tryz.func78 #[.slice Ao7 l1.length co7,.int .i64 (-1)] ?_;(with_reducible refine (slices_Index_int64_int64.calls k _ _ l1 (-1) t477 _ ?side1 ?side2 A3.1).mono ?_);(case side1=>repeat (first|exact (Kd.R_reads' HO1.1).2.2|(with_reducible refine Kd.C_alloc ?_ _)|(with_reducible refine Kd.C_drewN ?_ _)|(with_reducible refine Kd.C_drew ?_)));(case side2=>exact (Kd.R_reads' HO1.1).2.1);rintro e w' ⟨rfl,⟨nd,rfl⟩⟩;refine ⟨_,rfl,?_⟩;obtain ⟨Z8_0,Z8_1,Z8_2,Z8_3⟩:=zc4 BK476;obtain ⟨V8_0,V8_1,V8_2,V8_3⟩:=zf4 BK476)|((with_reducible refine gate_callee (f:=53) rfl ?_);refine zL (some 20) Tryz.func53 #[.agg #[.int .i64 a0_0,.int .i64 a0_1,.int .i64 a0_2,.int .i64 a0_3],.slice Ao7 l1.length co7] ?_;(with_reducible refine (impl_Field_isMatching.calls k a0_0 a0_1 a0_2 a0_3 _ _ l1 t478 _ ?side1 ?side2 A5.1).mono ?_);(case side1=>repeat (first|exact (Kd.R_reads' HO1.1).2.2|(with_reducible refine Kd.C_alloc ?_ _)|(with_reducible refine Kd.C_drewN ?_ _)|(with_reducible refine Kd.C_drew ?_)));(case side2=>exact (Kd.R_reads' HO1.1).2.1);rintro e w9 ⟨rfl,hb⟩;refine ⟨_,rfl,?_⟩;refine zA4 (Kd.R_below (zR HO1.1) hb) (zY BK476.1 hb) (Kept.below (S:=(fun k_=>P1_ k_)) (zK1 HK.1 GW476.1) hb) (below_step (zH1 HB.1 GE476.1) hb) ?_;clear HO1 BK476 HK HB;intro HO1 BK476 HK HB;(try clear hb)))
  go_ret2
  exact ⟨_,zE,by (with_reducible repeat (first|apply Kd.R_alloc|apply Kd.R_drewN|apply Kd.R_drew));exact HO1.1,zH1 HB.1 GE476.1,zK1 HK.1 GW476.1⟩
 ·rw [if_neg c4] at H
  have c4b0:=decide_eq_false c4
  clear c4
  have H':=Aside0.mk H
  clear H
  go_enter Tryz.func45,Tryz.ntmps45
  go_wp2_with (first|((with_reducible refine gate_dst (N:=2) rfl ?_);refine zX 2 #[.int .i64 a0_0,.int .i64 a0_1,.int .i64 a0_2,.int .i64 a0_3] 25 ?_;intro gb476 hg w10 hbox hb;refine zA6 (Kd.R_below (zR HO1.1) hb) (Kept.below (S:=(fun k_=>P1_ k_)) (zK HK.1) hb) (below_step (zH HB.1) hb) (hbox) ((by rw [hg];exact (by first|exact HK.1.1|exact (show Kept w _ (fun k_=>P1_ k_) from zK HK.1).1):w.heap.size≤gb476)) ((zS hg (below_size (zH HB.1)):w0.heap.size≤gb476)) ?_;clear HO1 HK HB;intro HO1 HK HB BK476 GW476 GE476;clear hb hbox hg;obtain ⟨Ao11,co11,eo11⟩:=Kd.R_slice HO1.1;subst eo11)|((with_reducible refine gate_callee (f:=78) rfl ?_);refine zL (some 14) Tryz.func78 #[.slice Ao11 l1.length co11,.int .i64 (-1)] ?_;(with_reducible refine (slices_Index_int64_int64.calls k _ _ l1 (-1) t477 _ ?side1 ?side2 A3.1).mono ?_);(case side1=>repeat (first|exact (Kd.R_reads' HO1.1).2.2|(with_reducible refine Kd.C_alloc ?_ _)|(with_reducible refine Kd.C_drewN ?_ _)|(with_reducible refine Kd.C_drew ?_)));(case side2=>exact (Kd.R_reads' HO1.1).2.1);rintro e w' ⟨rfl,⟨nd,rfl⟩⟩;refine ⟨_,rfl,?_⟩))
  go_loopg [7] k (fun kq v7 w'=>∃ (x1_1:List Int) (x7_1:Int),v7=.int .i64 x7_1∧Aside0 (impl_Field_matchFrom.l0 kq x1_1 t477 x7_1 a0_0 a0_1 a0_2 a0_3=some (r1,r2))∧Aside0 (kq≤k)∧Aside0 (Kd.R (Kd.int .i64) 2 w' w0.heap.size (fun k_=>(P1_ k_∨w.heap.size≤k_)) (.slice Ao11 l1.length co11) x1_1)∧Aside0 (w'.heap[gb476]?=some (.cells #[.int .i64 a0_0,.int .i64 a0_1,.int .i64 a0_2,.int .i64 a0_3] 25 (0,0)))∧Aside0 (Kept w w' (fun k_=>P1_ k_))∧Aside0 (Below w0.heap.size w0 w'))
  case atStart=>exact ⟨(l1),(wrap64 (t477+1)),(zF),H',⟨Nat.le_refl _⟩,⟨zR HO1.1⟩,⟨zB BK476.1⟩,⟨zK1 HK.1 GW476.1⟩,⟨zH1 HB.1 GE476.1⟩⟩
  case round=>
   clear H'
   try clear p2
   try clear c4
   try clear c4b0
   try clear c5
   try clear p6
   try clear c7
   try clear Z8_0 Z8_1 Z8_2 Z8_3 V8_0 V8_1 V8_2 V8_3
   obtain ⟨x1_1,x7_1,rfl,HA,HK1,HO_1,BK476,HK,HB⟩:=hrel
   have hl1_1:=(Kd.R_reads' HO_1.1).1
   rw [hl1_1] at HO_1
   (try simp only [hl1_1])
   (try simp only [hl1_1] at BK476)
   cases gk with
   |zero=>exact absurd HA.1 (by simp [impl_Field_matchFrom.l0])
   |succ k1=>
    have H:=HA.1
    clear HA
    simp only [impl_Field_matchFrom.l0] at H
    by_cases c12:x7_1<a0_0
    ·rw [if_pos c12] at H
     have c12b0:=decide_eq_true c12
     clear c12
     obtain ⟨t479,A13,H⟩:=zb H
     obtain ⟨t480,A14,H⟩:=zb H
     have HC15:=Aside0.mk H
     clear H
     obtain ⟨Z16_0,Z16_1,Z16_2,Z16_3⟩:=zc4 BK476
     obtain ⟨V16_0,V16_1,V16_2,V16_3⟩:=zf4 BK476
     try go_wp2
     refine zA4 (Kd.R_drew HO_1.1) (blk_drew BK476.1) (Kept.drew HK.1) (below_drew1 HB.1) ?_
     clear HO_1 BK476 HK HB
     intro HO_1 BK476 HK HB
     refine start_ (n:=8) (S:=fun w'=>w'.cell? ⟨gb476,0,none⟩=some (.int .i64 a0_0)∧w'.cell? ⟨gb476,1,none⟩=some (.int .i64 a0_1)∧w'.cell? ⟨gb476,2,none⟩=some (.int .i64 a0_2)∧w'.cell? ⟨gb476,3,none⟩=some (.int .i64 a0_3)) (ds:=[]) #[false,false,false,false,false,false,false,false] (by kernel_rfl) rfl rfl ⟨zx BK476 0,zx BK476 1,zx BK476 2,zx BK476 3⟩ (fun hHeld=>?_);refine with_tabW impl_Field_matchFrom.tab7 impl_Field_matchFrom.bits7 (fun HT_ HW_=>?_)
     generalize wr.drew=w17 at HO_1 BK476 HK HB hHeld ⊢
     refine zP HT_ 1 (some 30) rfl rfl ?_
     refine zP HT_ 4 (some 33) rfl rfl ?_
     refine zT HT_ HW_ hHeld 0 (some 29) rfl rfl ?_
     refine zT HT_ HW_ hHeld 3 (some 32) rfl rfl ?_
     refine one_ (i:=2) (N:=some 31) #[true,true,true,true,true,false,false,false] rfl rfl (one_of HT_.1 (by kernel_rfl)) (by decide) (fun K hK=>?_)
     refine goes_ Tryz.func73 (by kernel_rfl) rfl #[.agg #[.int .i64 a0_0,.int .i64 a0_1,.int .i64 a0_2,.int .i64 a0_3],.int .i64 t477] (by rfl) rfl rfl zM ?_
     with_reducible refine (impl_Field_colour.calls a0_0 a0_1 a0_2 a0_3 t477 t479 _ A13.1).mono ?_
     rintro e w18 ⟨rfl,hb⟩
     refine ⟨_,rfl,?_⟩
     refine zA4 (Kd.R_below (zR HO_1.1) hb) (zY BK476.1 hb) (Kept.below (S:=(fun k_=>P1_ k_)) (zK1 HK.1 GW476.1) hb) (below_step (zH1 HB.1 GE476.1) hb) ?_
     clear HO_1 BK476 HK HB
     intro HO_1 BK476 HK HB
     (try clear hb)
     (try clear hb2)
     (try clear hk)
     (try clear hi)
     refine hK.out _ _ ⟨zx BK476 0,zx BK476 1,zx BK476 2,zx BK476 3⟩ (fun hHeld=>?_)
     clear hK K
     refine zW (some 31) ?_
     refine one_ (i:=5) (N:=some 34) #[true,true,true,true,true,true,false,false] rfl rfl (one_of HT_.1 (by kernel_rfl)) (by decide) (fun K hK=>?_)
     refine goes_ Tryz.func73 (by kernel_rfl) rfl #[.agg #[.int .i64 a0_0,.int .i64 a0_1,.int .i64 a0_2,.int .i64 a0_3],.int .i64 x7_1] (by rfl) rfl rfl zM ?_
     with_reducible refine (impl_Field_colour.calls a0_0 a0_1 a0_2 a0_3 x7_1 t480 _ A14.1).mono ?_
     rintro e w19 ⟨rfl,hb⟩
     refine ⟨_,rfl,?_⟩
     refine zA4 (Kd.R_below (zR HO_1.1) hb) (zY BK476.1 hb) (Kept.below (S:=(fun k_=>P1_ k_)) (zK1 HK.1 GW476.1) hb) (below_step (zH1 HB.1 GE476.1) hb) ?_
     clear HO_1 BK476 HK HB
     intro HO_1 BK476 HK HB
     (try clear hb)
     (try clear hb2)
     (try clear hk)
     (try clear hi)
     refine hK.out _ _ ⟨zx BK476 0,zx BK476 1,zx BK476 2,zx BK476 3⟩ (fun hHeld=>?_)
     clear hK K
     refine zW (some 34) ?_
     refine zP HT_ 6 (some 8) rfl rfl ?_
     refine zP HT_ 7 (some 9) rfl rfl ?_
     refine done_ (done_of HT_.1 (by kernel_rfl)) ?_
     go_upto_region 8 with (fail)
     go_cut [65] (fun v65 wc=>∃ (kq:Nat) (x65_14:Bool),v65=.bool x65_14∧Aside0 (impl_Field_matchFrom.j1 kq x1_1 t477 x7_1 x65_14 a0_0 a0_1 a0_2 a0_3=some (r1,r2))∧Aside0 (kq≤k1)∧Aside0 (Kd.R (Kd.int .i64) 2 wc w0.heap.size (fun k_=>(P1_ k_∨w.heap.size≤k_)) (.slice Ao11 x1_1.length co11) x1_1)∧Aside0 (wc.heap[gb476]?=some (.cells #[.int .i64 a0_0,.int .i64 a0_1,.int .i64 a0_2,.int .i64 a0_3] 25 (0,0)))∧Aside0 (Kept w wc (fun k_=>P1_ k_))∧Aside0 (Below w0.heap.size w0 wc))
     case first=>
      have H:=HC15.1
      clear HC15
      by_cases c20:0≤x7_1
      ·rw [if_pos c20] at H
       have c20b0:=decide_eq_true c20
       clear c20
       (first|rw [c20b0]|(simp only [i64_w,i32_w];rw [c20b0])|skip)
       by_cases c21:x7_1<(x1_1.length:Int)
       ·rw [if_pos c21] at H
        have c21b0:=decide_eq_true c21
        clear c21
        by_cases c22:(rd x1_1 x7_1)≥0
        ·rw [if_pos c22] at H
         have c22b0:=decide_eq_true c22
         clear c22
         have H':=Aside0.mk H
         clear H
         have p481:0≤(x7_1:Int):=zo
         have q481:x7_1<(x1_1.length:Int):=zo
         obtain ⟨ad481,e481,hx481_0⟩:=Kd.at_int (Kd.R_reads' HO_1.1).2.2 x7_1 p481 q481
         cases e481
         replace p481:=eq_true p481
         replace q481:=eq_true q481
         go_wp2
         go_meet
         case rel=>exact ⟨_,(true),(zF),H',⟨by have:=HK1.1;first|omega|exact Nat.le_refl _⟩,⟨by (try simp only [hl1_1]);exact zR HO_1.1⟩,⟨by (try simp only [hl1_1]);exact zB BK476.1⟩,⟨zK1 HK.1 GW476.1⟩,⟨zH1 HB.1 GE476.1⟩⟩
        ·rw [if_neg c22] at H
         have c22b0:=decide_eq_false c22
         clear c22
         obtain ⟨t482,A23,H⟩:=zb H
         by_cases c24:t482=true
         ·subst c24
          have H1:(impl_Field_matchFrom.j1 k1 x1_1 t477 x7_1 true a0_0 a0_1 a0_2 a0_3)=some (r1,r2):=by rw [if_pos rfl] at H;exact H
          clear H
          have H:=H1
          clear H1
          have H':=Aside0.mk H
          clear H
          have p481:0≤(x7_1:Int):=zo
          have q481:x7_1<(x1_1.length:Int):=zo
          obtain ⟨ad481,e481,hx481_0⟩:=Kd.at_int (Kd.R_reads' HO_1.1).2.2 x7_1 p481 q481
          cases e481
          replace p481:=eq_true p481
          replace q481:=eq_true q481
          obtain ⟨Z25_0,Z25_1,Z25_2,Z25_3⟩:=zc4 BK476
          obtain ⟨V25_0,V25_1,V25_2,V25_3⟩:=zf4 BK476
          go_wp2_with (first|(go_at_call 81;(with_reducible refine (impl_Field_joins.calls a0_0 a0_1 a0_2 a0_3 t477 x7_1 true _ A23.1).mono ?_);rintro e w26 ⟨rfl,hb⟩;refine zA4 (Kd.R_below (zR HO_1.1) hb) (zY BK476.1 hb) (Kept.below (S:=(fun k_=>P1_ k_)) (zK1 HK.1 GW476.1) hb) (below_step (zH1 HB.1 GE476.1) hb) ?_;clear HO_1 BK476 HK HB;intro HO_1 BK476 HK HB;(try clear hb)))
          go_meet
          case rel=>exact ⟨_,(true),(zF),H',⟨by have:=HK1.1;first|omega|exact Nat.le_refl _⟩,⟨by (try simp only [hl1_1]);exact zR HO_1.1⟩,⟨by (try simp only [hl1_1]);exact zB BK476.1⟩,⟨zK1 HK.1 GW476.1⟩,⟨zH1 HB.1 GE476.1⟩⟩
         ·replace c24:=Bool.eq_false_iff.mpr c24
          subst c24
          have H1:(if t479=t480 then (impl_Field_matchFrom.j1 k1 x1_1 t477 x7_1 (t479 !=0) a0_0 a0_1 a0_2 a0_3) else (if (wrap64 (t479*t480))=2 then (impl_Field_matchFrom.j1 k1 x1_1 t477 x7_1 false a0_0 a0_1 a0_2 a0_3) else (impl_Field_matchFrom.j1 k1 x1_1 t477 x7_1 true a0_0 a0_1 a0_2 a0_3)))=some (r1,r2):=by rw [if_neg (show ¬ (false=true) by decide)] at H;exact H
          clear H
          have H:=H1
          clear H1
          by_cases c27:t479=t480
          ·rw [if_pos c27] at H
           have c27b0:=zq1 c27
           have c27b1:=zq2 c27
           clear c27
           have H':=Aside0.mk H
           clear H
           have p481:0≤(x7_1:Int):=zo
           have q481:x7_1<(x1_1.length:Int):=zo
           obtain ⟨ad481,e481,hx481_0⟩:=Kd.at_int (Kd.R_reads' HO_1.1).2.2 x7_1 p481 q481
           cases e481
           replace p481:=eq_true p481
           replace q481:=eq_true q481
           obtain ⟨Z28_0,Z28_1,Z28_2,Z28_3⟩:=zc4 BK476
           obtain ⟨V28_0,V28_1,V28_2,V28_3⟩:=zf4 BK476
           go_wp2_with (first|(go_at_call 81;(with_reducible refine (impl_Field_joins.calls a0_0 a0_1 a0_2 a0_3 t477 x7_1 false _ A23.1).mono ?_);rintro e w29 ⟨rfl,hb⟩;refine zA4 (Kd.R_below (zR HO_1.1) hb) (zY BK476.1 hb) (Kept.below (S:=(fun k_=>P1_ k_)) (zK1 HK.1 GW476.1) hb) (below_step (zH1 HB.1 GE476.1) hb) ?_;clear HO_1 BK476 HK HB;intro HO_1 BK476 HK HB;(try clear hb)))
           go_meet
           case rel=>exact ⟨_,((t479 !=0)),(zF),H',⟨by have:=HK1.1;first|omega|exact Nat.le_refl _⟩,⟨by (try simp only [hl1_1]);exact zR HO_1.1⟩,⟨by (try simp only [hl1_1]);exact zB BK476.1⟩,⟨zK1 HK.1 GW476.1⟩,⟨zH1 HB.1 GE476.1⟩⟩
          ·rw [if_neg c27] at H
           have c27b0:=zq3 c27
           have c27b1:=zq4 c27
           by_cases c30:(wrap64 (t479*t480))=2
           ·rw [if_pos c30] at H
            have c30b0:=zq1 c30
            have c30b1:=zq2 c30
            clear c30
            have H':=Aside0.mk H
            clear H
            have p481:0≤(x7_1:Int):=zo
            have q481:x7_1<(x1_1.length:Int):=zo
            obtain ⟨ad481,e481,hx481_0⟩:=Kd.at_int (Kd.R_reads' HO_1.1).2.2 x7_1 p481 q481
            cases e481
            replace p481:=eq_true p481
            replace q481:=eq_true q481
            obtain ⟨Z31_0,Z31_1,Z31_2,Z31_3⟩:=zc4 BK476
            obtain ⟨V31_0,V31_1,V31_2,V31_3⟩:=zf4 BK476
            go_wp2_with (first|(go_at_call 81;(with_reducible refine (impl_Field_joins.calls a0_0 a0_1 a0_2 a0_3 t477 x7_1 false _ A23.1).mono ?_);rintro e w32 ⟨rfl,hb⟩;refine zA4 (Kd.R_below (zR HO_1.1) hb) (zY BK476.1 hb) (Kept.below (S:=(fun k_=>P1_ k_)) (zK1 HK.1 GW476.1) hb) (below_step (zH1 HB.1 GE476.1) hb) ?_;clear HO_1 BK476 HK HB;intro HO_1 BK476 HK HB;(try clear hb)))
            go_meet
            case rel=>exact ⟨_,(false),(zF),H',⟨by have:=HK1.1;first|omega|exact Nat.le_refl _⟩,⟨by (try simp only [hl1_1]);exact zR HO_1.1⟩,⟨by (try simp only [hl1_1]);exact zB BK476.1⟩,⟨zK1 HK.1 GW476.1⟩,⟨zH1 HB.1 GE476.1⟩⟩
           ·rw [if_neg c30] at H
            have c30b0:=zq3 c30
            have c30b1:=zq4 c30
            have H':=Aside0.mk H
            clear H
            have p481:0≤(x7_1:Int):=zo
            have q481:x7_1<(x1_1.length:Int):=zo
            obtain ⟨ad481,e481,hx481_0⟩:=Kd.at_int (Kd.R_reads' HO_1.1).2.2 x7_1 p481 q481
            cases e481
            replace p481:=eq_true p481
            replace q481:=eq_true q481
            obtain ⟨Z33_0,Z33_1,Z33_2,Z33_3⟩:=zc4 BK476
            obtain ⟨V33_0,V33_1,V33_2,V33_3⟩:=zf4 BK476
            go_wp2_with (first|(go_at_call 81;(with_reducible refine (impl_Field_joins.calls a0_0 a0_1 a0_2 a0_3 t477 x7_1 false _ A23.1).mono ?_);rintro e w34 ⟨rfl,hb⟩;refine zA4 (Kd.R_below (zR HO_1.1) hb) (zY BK476.1 hb) (Kept.below (S:=(fun k_=>P1_ k_)) (zK1 HK.1 GW476.1) hb) (below_step (zH1 HB.1 GE476.1) hb) ?_;clear HO_1 BK476 HK HB;intro HO_1 BK476 HK HB;(try clear hb)))
            go_meet
            case rel=>exact ⟨_,(true),(zF),H',⟨by have:=HK1.1;first|omega|exact Nat.le_refl _⟩,⟨by (try simp only [hl1_1]);exact zR HO_1.1⟩,⟨by (try simp only [hl1_1]);exact zB BK476.1⟩,⟨zK1 HK.1 GW476.1⟩,⟨zH1 HB.1 GE476.1⟩⟩
       ·rw [if_neg c21] at H
        exact absurd H (by simp)
      ·rw [if_neg c20] at H
       exact absurd H (by simp)
     case rest=>
      clear HC15
      try clear c1
      try clear c2
      try clear p2
      try clear c3
      try clear c4
      try clear c4b0
      try clear p4
      try clear q4
      try clear hx4
      try clear c5
      try clear p6
      try clear c7
      try clear c12
      try clear c12b0
      try clear c20
      try clear c20b0
      try clear c21
      try clear c21b0
      try clear c22
      try clear c22b0
      try clear c24
      try clear c27
      try clear c27b0
      try clear c27b1
      try clear c30
      try clear c30b0
      try clear c30b1
      try clear Z16_0 Z16_1 Z16_2 Z16_3
      try clear Z25_0 Z25_1 Z25_2 Z25_3
      try clear Z28_0 Z28_1 Z28_2 Z28_3
      try clear Z31_0 Z31_1 Z31_2 Z31_3
      try clear Z33_0 Z33_1 Z33_2 Z33_3
      try clear Z8_0 Z8_1 Z8_2 Z8_3
      try clear V16_0 V16_1 V16_2 V16_3
      try clear V25_0 V25_1 V25_2 V25_3
      try clear V28_0 V28_1 V28_2 V28_3
      try clear V31_0 V31_1 V31_2 V31_3
      try clear V33_0 V33_1 V33_2 V33_3
      try clear V8_0 V8_1 V8_2 V8_3
      try clear hx481_0
      try clear p2
      try clear p481
      try clear p6
      try clear q481
      obtain ⟨kq,x65_14,rfl,HA,HJ14,HO_1,BK476,HK,HB⟩:=hcut
      cases kq with
      |zero=>exact absurd HA.1 (by simp [impl_Field_matchFrom.j1])
      |succ kj14=>
       have H:=HA.1
       clear HA
       simp only [impl_Field_matchFrom.j1] at H
       by_cases c35:x65_14=true
       ·subst c35
        have H1:(impl_Field_matchFrom.l0 kj14 x1_1 t477 (wrap64 (x7_1+1)) a0_0 a0_1 a0_2 a0_3)=some (r1,r2):=by rw [if_pos rfl] at H;exact H
        clear H
        have H:=H1
        clear H1
        have H':=Aside0.mk H
        clear H
        go_wp2
        (try simp only [← hl1_1])
        go_roundg kj14
        case measure=>have:=HK1.1;have:=HJ14.1;omega
        case rel=>exact ⟨(x1_1),(wrap64 (x7_1+1)),(zF),H',⟨by have:=HK1.1;have:=HJ14.1;omega⟩,⟨by (try simp only [hl1_1]);exact zR HO_1.1⟩,⟨by (try simp only [hl1_1]);exact zB BK476.1⟩,⟨zK1 HK.1 GW476.1⟩,⟨zH1 HB.1 GE476.1⟩⟩
       ·replace c35:=Bool.eq_false_iff.mpr c35
        subst c35
        have H1:((slices_Clone_int64_int64.f x1_1).bind fun t483=>(if 0≤t477 then (if t477<(t483.length:Int) then (if 0≤x7_1 then (if x7_1<(t483.length:Int) then ((impl_Field_matchFrom.f kj14 a0_0 a0_1 a0_2 a0_3 ((t483.set (t477:Int).toNat x7_1).set (x7_1:Int).toNat t477)).bind fun bt488=>(if bt488.2=true then (some (bt488.1,true)) else (impl_Field_matchFrom.l0 kj14 x1_1 t477 (wrap64 (x7_1+1)) a0_0 a0_1 a0_2 a0_3))) else (none)) else (none)) else (none)) else (none)))=some (r1,r2):=by rw [if_neg (show ¬ (false=true) by decide)] at H;exact H
        clear H
        have H:=H1
        clear H1
        obtain ⟨t483,A36,H⟩:=zb H
        by_cases c37:0≤t477
        ·rw [if_pos c37] at H
         have c37b0:=decide_eq_true c37
         clear c37
         by_cases c38:t477<(t483.length:Int)
         ·rw [if_pos c38] at H
          have c38b0:=decide_eq_true c38
          clear c38
          obtain ⟨y486,hy486⟩:∃ y_:List Int,y_=(t483.set (t477:Int).toNat x7_1):=⟨_,rfl⟩
          replace H:(if 0≤x7_1 then (if x7_1<(t483.length:Int) then ((impl_Field_matchFrom.f kj14 a0_0 a0_1 a0_2 a0_3 (y486.set (x7_1:Int).toNat t477)).bind fun bt488=>(if bt488.2=true then (some (bt488.1,true)) else (impl_Field_matchFrom.l0 kj14 x1_1 t477 (wrap64 (x7_1+1)) a0_0 a0_1 a0_2 a0_3))) else (none)) else (none))=some (r1,r2):=by first|(rw [hy486];with_reducible exact H)|(have H2_:=(Option.bind_some _ _).symm.trans H;rw [hy486];with_reducible exact H2_)|(have H2_:=(Option.bind_some _ _).symm.trans H;with_reducible exact H2_)|with_reducible exact H|(rw [hy486];exact H)|exact H
          have Ny486:=Aside0.mk hy486
          clear hy486
          by_cases c40:0≤x7_1
          ·rw [if_pos c40] at H
           have c40b0:=decide_eq_true c40
           clear c40
           by_cases c41:x7_1<(t483.length:Int)
           ·rw [if_pos c41] at H
            have c41b0:=decide_eq_true c41
            clear c41
            obtain ⟨y487,hy487⟩:∃ y_:List Int,y_=(y486.set (x7_1:Int).toNat t477):=⟨_,rfl⟩
            replace H:((impl_Field_matchFrom.f kj14 a0_0 a0_1 a0_2 a0_3 y487).bind fun bt488=>(if bt488.2=true then (some (bt488.1,true)) else (impl_Field_matchFrom.l0 kj14 x1_1 t477 (wrap64 (x7_1+1)) a0_0 a0_1 a0_2 a0_3)))=some (r1,r2):=by first|(rw [hy487];with_reducible exact H)|(have H2_:=(Option.bind_some _ _).symm.trans H;rw [hy487];with_reducible exact H2_)|(have H2_:=(Option.bind_some _ _).symm.trans H;with_reducible exact H2_)|with_reducible exact H|(rw [hy487];exact H)|exact H
            have Ny487:=Aside0.mk hy487
            clear hy487
            obtain ⟨⟨t488,t491⟩,A43,H⟩:=zb H;(try dsimp only at H)
            by_cases c44:t491=true
            ·subst c44
             have H1:(some (t488,true))=some (r1,r2):=by rw [if_pos rfl] at H;exact H
             clear H
             have H:=H1
             clear H1
             simp only [Option.some.injEq,Prod.mk.injEq] at H
             obtain ⟨rfl,rfl⟩:=H
             go_wp2_with (first|((with_reducible refine gate_callee (f:=82) rfl ?_);refine zL (some 67) Tryz.func82 #[.slice Ao11 x1_1.length co11] ?_;(with_reducible refine (slices_Clone_int64_int64.calls _ _ x1_1 t483 _ ?side1 ?side2 A36.1).mono ?_);(case side1=>repeat (first|exact (Kd.R_reads' HO_1.1).2.2|(with_reducible refine Kd.C_alloc ?_ _)|(with_reducible refine Kd.C_drewN ?_ _)|(with_reducible refine Kd.C_drew ?_)));(case side2=>exact (Kd.R_reads' HO_1.1).2.1);rintro e w45 ⟨v484,rfl,ho0,hb⟩;refine ⟨_,rfl,?_⟩;refine zA5 (Kd.R_elder' (zR HO_1.1) (Kd.R_base ho0) hb) (Kd.R_lower (Kd.R_new' (Kd.R_newM (M:=fun k_=>(P1_ k_∨w.heap.size≤k_)) ho0 (by first|exact HK.1.1|exact (show Kept w _ (fun k_=>P1_ k_) from zK1 HK.1 GW476.1).1) (fun k_ h_=>.inr h_)) (Kd.R_lt (zR HO_1.1))) (below_size (zH1 HB.1 GE476.1))) (zY BK476.1 hb) (Kept.below (S:=(fun k_=>P1_ k_)) (zK1 HK.1 GW476.1) hb) (below_step (zH1 HB.1 GE476.1) hb) ?_;clear HO_1 BK476 HK HB;intro HO_1 HO485 BK476 HK HB;(try clear hb);(try clear hk);(try clear ho0);have p39:0≤(t477:Int):=zo;have q39:(t477:Int)<((t483.length:Int):Int):=zo;obtain ⟨go39,co39,eo39,gb39,gl39,cl39,HG39⟩:=Kd.R_form HO485.1 (by omega);(first|cases eo39|(injection eo39 with ea_ en_ ec_;(first|subst ea_|(injection ea_ with ea_;subst ea_));subst ec_;clear en_));have GB39:=Aside0.mk gb39;have GG39:=Aside0.mk HG39;clear gb39 gl39 HG39;have HMgo39:=Aside0.mk (show (P1_ go39∨w.heap.size≤go39) from (HO485.1.1 _ rfl).1.1);obtain ⟨hx39_0,hf39_0⟩:=Kd.R_celln 0 HO485.1 (t477:Int) p39 q39;replace p39:=eq_true p39;replace q39:=eq_true q39;have n_:=Aside0.mk (Kd.R_mono (ok':=(fun k_=>(P1_ k_∨w.heap.size≤k_)∧some k_≠(.slice Ao11 x1_1.length co11:Value).ownBlock)) HO485.1 (fun k_ hk=>⟨hk.1.1,hk.2⟩));clear HO485;have HO485:=n_;clear n_;obtain ⟨hy46_,hz46_⟩:=Kd.R_celln 0 HO485.1 (t477:Int) zo zo;have HP46:=Kd.R_putg HO485.1 (t477:Int) x7_1)|((with_reducible refine gate_store (t:=2) (p:=74) rfl ?_);refine store_event (t:=2) (p:=74) (v:=?vo_w47) (w1:=(w45.setCell ⟨go39,(t477:Int).toNat,none⟩ (.int .i64 x7_1))) ?hg ?ho ?hn ?hr ?_;(case ho=>rfl);(case hg=>rfl);(case hn=>rfl);(case hr=>first|(go_simp;done)|(go_simp;rfl));intro w47 hw;have hg:w45.grownBy w47 (some go39):=(by rw [hw];exact HP46.2);have hp_:Kd.R (Kd.int .i64) 2 w47 w0.heap.size (fun k_=>(P1_ k_∨w.heap.size≤k_)∧some k_≠(.slice Ao11 x1_1.length co11:Value).ownBlock) (.slice (some ⟨go39,0,none⟩) t483.length co39) y486:=(by rw [hw,Ny486.1];exact HP46.1);clear HP46;refine zA5 (Kd.R_after (v:=(.slice (some ⟨go39,0,none⟩) t483.length co39)) (v1:=(.slice (some ⟨go39,0,none⟩) t483.length co39)) (ok:=(fun k_=>(P1_ k_∨w.heap.size≤k_))) (zR HO_1.1) hg (.inl rfl)) (blk_grown (g:=gb476) (o:=.cells #[.int .i64 a0_0,.int .i64 a0_1,.int .i64 a0_2,.int .i64 a0_3] 25 (0,0)) (zB BK476.1) hg (Kd.R_ne HO485.1 BK476.1 (by decide))) (hp_) ((by rw [hw];exact below_set (HB.1) GB39.1:Below w0.heap.size w0 w47)) (Kept.of_grown (S:=(fun k_=>P1_ k_)) hg (zK1 HK.1 GW476.1) (fun k_ e_=>(HO485.1.1 k_ e_).1)) ?_;clear HO_1 BK476 HO485 HB HK;intro HO_1 BK476 HO485 HB HK;clear hg hw hp_;have p42:0≤(x7_1:Int):=zo;have q42:(x7_1:Int)<((t483.length:Int):Int):=zo;obtain ⟨hx42_0,hf42_0⟩:=Kd.R_celln 0 HO485.1 (x7_1:Int) p42 q42;replace p42:=eq_true p42;replace q42:=eq_true q42;obtain ⟨hy48_,hz48_⟩:=Kd.R_celln 0 HO485.1 (x7_1:Int) zo zo;have HP48:=Kd.R_putg HO485.1 (x7_1:Int) t477)|((with_reducible refine gate_store (t:=2) (p:=75) rfl ?_);refine store_event (t:=2) (p:=75) (v:=?vo_w49) (w1:=(w47.setCell ⟨go39,(x7_1:Int).toNat,none⟩ (.int .i64 t477))) ?hg ?ho ?hn ?hr ?_;(case ho=>rfl);(case hg=>rfl);(case hn=>rfl);(case hr=>first|(go_simp;done)|(go_simp;rfl));intro w49 hw;have hg:w47.grownBy w49 (some go39):=(by rw [hw];exact HP48.2);have hp_:Kd.R (Kd.int .i64) 2 w49 w0.heap.size (fun k_=>(P1_ k_∨w.heap.size≤k_)∧some k_≠(.slice Ao11 x1_1.length co11:Value).ownBlock) (.slice (some ⟨go39,0,none⟩) t483.length co39) y487:=(by rw [hw,Ny487.1];exact HP48.1);clear HP48;refine zA5 (Kd.R_after (v:=(.slice (some ⟨go39,0,none⟩) t483.length co39)) (v1:=(.slice (some ⟨go39,0,none⟩) t483.length co39)) (ok:=(fun k_=>(P1_ k_∨w.heap.size≤k_))) (zR HO_1.1) hg (.inl rfl)) (blk_grown (g:=gb476) (o:=.cells #[.int .i64 a0_0,.int .i64 a0_1,.int .i64 a0_2,.int .i64 a0_3] 25 (0,0)) (zB BK476.1) hg (Kd.R_ne HO485.1 BK476.1 (by decide))) (hp_) ((by rw [hw];exact below_set (HB.1) GB39.1:Below w0.heap.size w0 w49)) (Kept.of_grown (S:=(fun k_=>P1_ k_)) hg (zK1 HK.1 GW476.1) (fun k_ e_=>(HO485.1.1 k_ e_).1)) ?_;clear HO_1 BK476 HO485 HB HK;intro HO_1 BK476 HO485 HB HK;clear hg hw hp_;obtain ⟨Z50_0,Z50_1,Z50_2,Z50_3⟩:=zc4 BK476;obtain ⟨V50_0,V50_1,V50_2,V50_3⟩:=zf4 BK476)|((with_reducible refine gate_callee (f:=45) rfl ?_);refine zL (some 79) Tryz.func45 #[.agg #[.int .i64 a0_0,.int .i64 a0_1,.int .i64 a0_2,.int .i64 a0_3],.slice (some ⟨go39,0,none⟩) t483.length co39] ?_;(with_reducible refine (ih kj14 (by have:=HK1.1;have:=HJ14.1;omega) a0_0 a0_1 a0_2 a0_3 (fun k_=>some k_=(.slice (some ⟨go39,0,none⟩) t483.length co39:Value).ownBlock) (.slice (some ⟨go39,0,none⟩) t483.length co39) y487 t488 true w0 _ ?side1 ?side2 A43.1).mono ?_);(case side1=>exact zH1 HB.1 GE476.1);(case side2=>exact Kd.R_tight rfl HO485.1);rintro e w51 ⟨v489,rfl,ho0,hb,hkp⟩;refine ⟨_,rfl,?_⟩;refine zA5 (Kd.R_mono (ok':=fun k_=>(P1_ k_∨w.heap.size≤k_)∧some k_≠(v489:Value).ownBlock) (Kd.R_keptB (HO_1.1) hkp (fun k_ hk_ hs_=>(hk_.2) hs_)) (fun k_ hk_=>⟨hk_.1.1,fun e_=>Or.elim (ho0.1 k_ e_.symm) (fun hs_=>hk_.2.1 hs_) (fun hn_=>Nat.not_le.2 hk_.2.2 hn_)⟩)) (blk_kept (zB BK476.1) hkp (fun hs_=>(fun e_=>(Kd.R_ne HO485.1 BK476.1 (by decide)) e_) hs_)) (Kd.R_mono (ok':=fun k_=>(P1_ k_∨w.heap.size≤k_)∧some k_≠(.slice Ao11 x1_1.length co11:Value).ownBlock) ho0 (fun k_ hk_=>⟨Or.elim hk_ (fun hs_=>(HO485.1.1 k_ (hs_).symm).1) (fun hn_=>(.inr (Nat.le_trans (by first|exact HK.1.1|exact (show Kept w _ (fun k_=>P1_ k_) from zK1 HK.1 GW476.1).1) hn_))),Or.elim hk_ (fun hs_=>fun e_=>(((HO_1.1).1 k_ e_.symm).2) hs_) (fun hn_=>(Kd.fresh' (Kd.R_lt (zR HO_1.1)) k_ hn_))⟩)) (Kept.then_ (S:=(fun k_=>P1_ k_)) (zK1 HK.1 GW476.1) hkp (fun k_ hs_=>(fun e_=>(HO485.1.1 k_ e_.symm).1) hs_)) (hb) ?_;clear HO_1 BK476 HK HB HO485;intro HO_1 BK476 HO490 HK HB;(try clear hb);(try clear hkp);(try clear ho0)))
             go_ret2
             exact ⟨_,zE,by (with_reducible repeat (first|apply Kd.R_alloc|apply Kd.R_drewN|apply Kd.R_drew));exact Kd.R_mono HO490.1 (fun _ hk=>hk.1),zH1 HB.1 GE476.1,zK1 HK.1 GW476.1⟩
            ·replace c44:=Bool.eq_false_iff.mpr c44
             subst c44
             have H1:(impl_Field_matchFrom.l0 kj14 x1_1 t477 (wrap64 (x7_1+1)) a0_0 a0_1 a0_2 a0_3)=some (r1,r2):=by rw [if_neg (show ¬ (false=true) by decide)] at H;exact H
             clear H
             have H:=H1
             clear H1
             have H':=Aside0.mk H
             clear H
             go_wp2_with (first|((with_reducible refine gate_callee (f:=82) rfl ?_);refine zL (some 67) Tryz.func82 #[.slice Ao11 x1_1.length co11] ?_;(with_reducible refine (slices_Clone_int64_int64.calls _ _ x1_1 t483 _ ?side1 ?side2 A36.1).mono ?_);(case side1=>repeat (first|exact (Kd.R_reads' HO_1.1).2.2|(with_reducible refine Kd.C_alloc ?_ _)|(with_reducible refine Kd.C_drewN ?_ _)|(with_reducible refine Kd.C_drew ?_)));(case side2=>exact (Kd.R_reads' HO_1.1).2.1);rintro e w52 ⟨v484,rfl,ho0,hb⟩;refine ⟨_,rfl,?_⟩;refine zA5 (Kd.R_elder' (zR HO_1.1) (Kd.R_base ho0) hb) (Kd.R_lower (Kd.R_new' (Kd.R_newM (M:=fun k_=>(P1_ k_∨w.heap.size≤k_)) ho0 (by first|exact HK.1.1|exact (show Kept w _ (fun k_=>P1_ k_) from zK1 HK.1 GW476.1).1) (fun k_ h_=>.inr h_)) (Kd.R_lt (zR HO_1.1))) (below_size (zH1 HB.1 GE476.1))) (zY BK476.1 hb) (Kept.below (S:=(fun k_=>P1_ k_)) (zK1 HK.1 GW476.1) hb) (below_step (zH1 HB.1 GE476.1) hb) ?_;clear HO_1 BK476 HK HB;intro HO_1 HO485 BK476 HK HB;(try clear hb);(try clear hk);(try clear ho0);have p39:0≤(t477:Int):=zo;have q39:(t477:Int)<((t483.length:Int):Int):=zo;obtain ⟨go39,co39,eo39,gb39,gl39,cl39,HG39⟩:=Kd.R_form HO485.1 (by omega);(first|cases eo39|(injection eo39 with ea_ en_ ec_;(first|subst ea_|(injection ea_ with ea_;subst ea_));subst ec_;clear en_));have GB39:=Aside0.mk gb39;have GG39:=Aside0.mk HG39;clear gb39 gl39 HG39;have HMgo39:=Aside0.mk (show (P1_ go39∨w.heap.size≤go39) from (HO485.1.1 _ rfl).1.1);obtain ⟨hx39_0,hf39_0⟩:=Kd.R_celln 0 HO485.1 (t477:Int) p39 q39;replace p39:=eq_true p39;replace q39:=eq_true q39;have n_:=Aside0.mk (Kd.R_mono (ok':=(fun k_=>(P1_ k_∨w.heap.size≤k_)∧some k_≠(.slice Ao11 x1_1.length co11:Value).ownBlock)) HO485.1 (fun k_ hk=>⟨hk.1.1,hk.2⟩));clear HO485;have HO485:=n_;clear n_;obtain ⟨hy53_,hz53_⟩:=Kd.R_celln 0 HO485.1 (t477:Int) zo zo;have HP53:=Kd.R_putg HO485.1 (t477:Int) x7_1)|((with_reducible refine gate_store (t:=2) (p:=74) rfl ?_);refine store_event (t:=2) (p:=74) (v:=?vo_w54) (w1:=(w52.setCell ⟨go39,(t477:Int).toNat,none⟩ (.int .i64 x7_1))) ?hg ?ho ?hn ?hr ?_;(case ho=>rfl);(case hg=>rfl);(case hn=>rfl);(case hr=>first|(go_simp;done)|(go_simp;rfl));intro w54 hw;have hg:w52.grownBy w54 (some go39):=(by rw [hw];exact HP53.2);have hp_:Kd.R (Kd.int .i64) 2 w54 w0.heap.size (fun k_=>(P1_ k_∨w.heap.size≤k_)∧some k_≠(.slice Ao11 x1_1.length co11:Value).ownBlock) (.slice (some ⟨go39,0,none⟩) t483.length co39) y486:=(by rw [hw,Ny486.1];exact HP53.1);clear HP53;refine zA5 (Kd.R_after (v:=(.slice (some ⟨go39,0,none⟩) t483.length co39)) (v1:=(.slice (some ⟨go39,0,none⟩) t483.length co39)) (ok:=(fun k_=>(P1_ k_∨w.heap.size≤k_))) (zR HO_1.1) hg (.inl rfl)) (blk_grown (g:=gb476) (o:=.cells #[.int .i64 a0_0,.int .i64 a0_1,.int .i64 a0_2,.int .i64 a0_3] 25 (0,0)) (zB BK476.1) hg (Kd.R_ne HO485.1 BK476.1 (by decide))) (hp_) ((by rw [hw];exact below_set (HB.1) GB39.1:Below w0.heap.size w0 w54)) (Kept.of_grown (S:=(fun k_=>P1_ k_)) hg (zK1 HK.1 GW476.1) (fun k_ e_=>(HO485.1.1 k_ e_).1)) ?_;clear HO_1 BK476 HO485 HB HK;intro HO_1 BK476 HO485 HB HK;clear hg hw hp_;have p42:0≤(x7_1:Int):=zo;have q42:(x7_1:Int)<((t483.length:Int):Int):=zo;obtain ⟨hx42_0,hf42_0⟩:=Kd.R_celln 0 HO485.1 (x7_1:Int) p42 q42;replace p42:=eq_true p42;replace q42:=eq_true q42;obtain ⟨hy55_,hz55_⟩:=Kd.R_celln 0 HO485.1 (x7_1:Int) zo zo;have HP55:=Kd.R_putg HO485.1 (x7_1:Int) t477)|((with_reducible refine gate_store (t:=2) (p:=75) rfl ?_);refine store_event (t:=2) (p:=75) (v:=?vo_w56) (w1:=(w54.setCell ⟨go39,(x7_1:Int).toNat,none⟩ (.int .i64 t477))) ?hg ?ho ?hn ?hr ?_;(case ho=>rfl);(case hg=>rfl);(case hn=>rfl);(case hr=>first|(go_simp;done)|(go_simp;rfl));intro w56 hw;have hg:w54.grownBy w56 (some go39):=(by rw [hw];exact HP55.2);have hp_:Kd.R (Kd.int .i64) 2 w56 w0.heap.size (fun k_=>(P1_ k_∨w.heap.size≤k_)∧some k_≠(.slice Ao11 x1_1.length co11:Value).ownBlock) (.slice (some ⟨go39,0,none⟩) t483.length co39) y487:=(by rw [hw,Ny487.1];exact HP55.1);clear HP55;refine zA5 (Kd.R_after (v:=(.slice (some ⟨go39,0,none⟩) t483.length co39)) (v1:=(.slice (some ⟨go39,0,none⟩) t483.length co39)) (ok:=(fun k_=>(P1_ k_∨w.heap.size≤k_))) (zR HO_1.1) hg (.inl rfl)) (blk_grown (g:=gb476) (o:=.cells #[.int .i64 a0_0,.int .i64 a0_1,.int .i64 a0_2,.int .i64 a0_3] 25 (0,0)) (zB BK476.1) hg (Kd.R_ne HO485.1 BK476.1 (by decide))) (hp_) ((by rw [hw];exact below_set (HB.1) GB39.1:Below w0.heap.size w0 w56)) (Kept.of_grown (S:=(fun k_=>P1_ k_)) hg (zK1 HK.1 GW476.1) (fun k_ e_=>(HO485.1.1 k_ e_).1)) ?_;clear HO_1 BK476 HO485 HB HK;intro HO_1 BK476 HO485 HB HK;clear hg hw hp_;obtain ⟨Z57_0,Z57_1,Z57_2,Z57_3⟩:=zc4 BK476;obtain ⟨V57_0,V57_1,V57_2,V57_3⟩:=zf4 BK476)|((with_reducible refine gate_callee (f:=45) rfl ?_);refine zL (some 79) Tryz.func45 #[.agg #[.int .i64 a0_0,.int .i64 a0_1,.int .i64 a0_2,.int .i64 a0_3],.slice (some ⟨go39,0,none⟩) t483.length co39] ?_;(with_reducible refine (ih kj14 (by have:=HK1.1;have:=HJ14.1;omega) a0_0 a0_1 a0_2 a0_3 (fun k_=>some k_=(.slice (some ⟨go39,0,none⟩) t483.length co39:Value).ownBlock) (.slice (some ⟨go39,0,none⟩) t483.length co39) y487 t488 false w0 _ ?side1 ?side2 A43.1).mono ?_);(case side1=>exact zH1 HB.1 GE476.1);(case side2=>exact Kd.R_tight rfl HO485.1);rintro e w58 ⟨v489,rfl,ho0,hb,hkp⟩;refine ⟨_,rfl,?_⟩;refine zA5 (Kd.R_mono (ok':=fun k_=>(P1_ k_∨w.heap.size≤k_)∧some k_≠(v489:Value).ownBlock) (Kd.R_keptB (HO_1.1) hkp (fun k_ hk_ hs_=>(hk_.2) hs_)) (fun k_ hk_=>⟨hk_.1.1,fun e_=>Or.elim (ho0.1 k_ e_.symm) (fun hs_=>hk_.2.1 hs_) (fun hn_=>Nat.not_le.2 hk_.2.2 hn_)⟩)) (blk_kept (zB BK476.1) hkp (fun hs_=>(fun e_=>(Kd.R_ne HO485.1 BK476.1 (by decide)) e_) hs_)) (Kd.R_mono (ok':=fun k_=>(P1_ k_∨w.heap.size≤k_)∧some k_≠(.slice Ao11 x1_1.length co11:Value).ownBlock) ho0 (fun k_ hk_=>⟨Or.elim hk_ (fun hs_=>(HO485.1.1 k_ (hs_).symm).1) (fun hn_=>(.inr (Nat.le_trans (by first|exact HK.1.1|exact (show Kept w _ (fun k_=>P1_ k_) from zK1 HK.1 GW476.1).1) hn_))),Or.elim hk_ (fun hs_=>fun e_=>(((HO_1.1).1 k_ e_.symm).2) hs_) (fun hn_=>(Kd.fresh' (Kd.R_lt (zR HO_1.1)) k_ hn_))⟩)) (Kept.then_ (S:=(fun k_=>P1_ k_)) (zK1 HK.1 GW476.1) hkp (fun k_ hs_=>(fun e_=>(HO485.1.1 k_ e_.symm).1) hs_)) (hb) ?_;clear HO_1 BK476 HK HB HO485;intro HO_1 BK476 HO490 HK HB;(try clear hb);(try clear hkp);(try clear ho0)))
             (try simp only [← hl1_1])
             go_roundg kj14
             case measure=>have:=HK1.1;have:=HJ14.1;omega
             case rel=>exact ⟨(x1_1),(wrap64 (x7_1+1)),(zF),H',⟨by have:=HK1.1;have:=HJ14.1;omega⟩,⟨by (try simp only [hl1_1]);exact zRm HO_1.1 (fun _ hk=>hk.1)⟩,⟨by (try simp only [hl1_1]);exact zB BK476.1⟩,⟨zK1 HK.1 GW476.1⟩,⟨zH1 HB.1 GE476.1⟩⟩
           ·rw [if_neg c41] at H
            exact absurd H (by simp)
          ·rw [if_neg c40] at H
           exact absurd H (by simp)
         ·rw [if_neg c38] at H
          exact absurd H (by simp)
        ·rw [if_neg c37] at H
         exact absurd H (by simp)
    ·rw [if_neg c12] at H
     have c12b0:=decide_eq_false c12
     clear c12
     simp only [Option.some.injEq,Prod.mk.injEq] at H
     obtain ⟨rfl,rfl⟩:=H
     obtain ⟨Z59_0,Z59_1,Z59_2,Z59_3⟩:=zc4 BK476
     obtain ⟨V59_0,V59_1,V59_2,V59_3⟩:=zf4 BK476
     go_wp2
     go_ret2
     exact ⟨_,zE,by first|exact Kd.R_nil _ _ _ _ _|exact Kd.N_nil _ _ _ _ _|exact Kd.V_nil _ _ _ _ _|exact Kd.Q_nil _ _ _ _ _|exact Kd.S_nil _ _ _ _ _,zH1 HB.1 GE476.1,zK1 HK.1 GW476.1⟩
def impl_FindKept.f (k:Nat) (a0_0:Int) (a0_1:Int) (a0_2:Int) (a0_3:Int):Option (List Int×Int):=(impl_IsField.f a0_0 a0_1 a0_2 a0_3).bind fun t495=>(if t495=true then ((slices_Repeat.f (([(-1)]:List Int)) a0_0).bind fun t499=>((impl_Field_matchFrom.f k a0_0 a0_1 a0_2 a0_3 t499).bind fun bt502=>(if bt502.2=true then (some (bt502.1,0)) else (some (([]:List Int),4))))) else (some (([]:List Int),1)))
def impl_FindKept.T3:Bool×List (List Nat×List Nat):=(true,[([],[]),([],[]),([],[]),([2],[2]),([1,3],[1,3]),([0,4,4],[0,4]),([5],[5]),([6],[6]),([6],[6]),([7,5,0,1,2,3,4,5,6,7],[7]),([8,9,0,1,2,3,4,5,6,7,8,9],[8])])
def impl_FindKept.B3:List Nat:=[0,0,0,4,14,31,63,127,127,255,1023]
theorem impl_FindKept.tab3:rtab .any (opsOf Tryz.f16 3)=impl_FindKept.T3:=by kernel_rfl
theorem impl_FindKept.bits3:waitsOk impl_FindKept.T3.2 impl_FindKept.B3=true:=by kernel_rfl
theorem impl_FindKept.calls (k:Nat) (a0_0:Int) (a0_1:Int) (a0_2:Int) (a0_3:Int) (r1:List Int) (r2:Int) (w:World) (h:impl_FindKept.f k a0_0 a0_1 a0_2 a0_3=some (r1,r2)):
 Calls Tryz.prog 16 #[.agg #[.int .i64 a0_0,.int .i64 a0_1,.int .i64 a0_2,.int .i64 a0_3]] w fun e w'=>∃ v0_:Value,e=.returned (.tuple #[v0_,.int .i64 r2])∧Kd.R (Kd.int .i64) 2 w' w.heap.size (fun _=>True) v0_ r1∧Below w.heap.size w w':=by
 have hu25:=Tryz.underlying25
 have HB:=Aside0.mk (Below.refl w.heap.size w)
 have H:((impl_IsField.f a0_0 a0_1 a0_2 a0_3).bind fun t495=>(if t495=true then ((slices_Repeat.f (([(-1)]:List Int)) a0_0).bind fun t499=>((impl_Field_matchFrom.f k a0_0 a0_1 a0_2 a0_3 t499).bind fun bt502=>(if bt502.2=true then (some (bt502.1,0)) else (some (([]:List Int),4))))) else (some (([]:List Int),1))))=some (r1,r2):=h
 clear h
 obtain ⟨t495,A2,H⟩:=zb H
 by_cases c3:t495=true
 ·subst c3
  have H1:((slices_Repeat.f (([(-1)]:List Int)) a0_0).bind fun t499=>((impl_Field_matchFrom.f k a0_0 a0_1 a0_2 a0_3 t499).bind fun bt502=>(if bt502.2=true then (some (bt502.1,0)) else (some (([]:List Int),4)))))=some (r1,r2):=by rw [if_pos rfl] at H;exact H
  clear H
  have H:=H1
  clear H1
  obtain ⟨y496,hy496⟩:∃ y_:List Int,y_=(([(-1)]:List Int)):=⟨_,rfl⟩
  replace H:((slices_Repeat.f y496 a0_0).bind fun t499=>((impl_Field_matchFrom.f k a0_0 a0_1 a0_2 a0_3 t499).bind fun bt502=>(if bt502.2=true then (some (bt502.1,0)) else (some (([]:List Int),4)))))=some (r1,r2):=by first|(rw [hy496];with_reducible exact H)|(have H2_:=(Option.bind_some _ _).symm.trans H;rw [hy496];with_reducible exact H2_)|(have H2_:=(Option.bind_some _ _).symm.trans H;with_reducible exact H2_)|with_reducible exact H|(rw [hy496];exact H)|exact H
  have Ny496:=Aside0.mk hy496
  clear hy496
  obtain ⟨t499,A4,H⟩:=zb H
  obtain ⟨⟨t502,t505⟩,A5,H⟩:=zb H;(try dsimp only at H)
  by_cases c6:t505=true
  ·subst c6
   have H1:(some (t502,0))=some (r1,r2):=by rw [if_pos rfl] at H;exact H
   clear H
   have H:=H1
   clear H1
   simp only [Option.some.injEq,Prod.mk.injEq] at H
   obtain ⟨rfl,rfl⟩:=H
   go_enter Tryz.func16,Tryz.ntmps16
   try go_wp2_with (first|((with_reducible refine gate_dst (N:=1) rfl ?_);refine zX 1 #[.int .i64 a0_0,.int .i64 a0_1,.int .i64 a0_2,.int .i64 a0_3] 25 ?_;intro gb494 hg w7 hbox hb;refine zA4 (below_step (zH HB.1) hb) (hbox) (zs hg HB:w.heap.size≤gb494) (zs hg HB:w.heap.size≤gb494) ?_;clear HB;intro HB BK494 GW494 GE494;clear hb hbox hg;obtain ⟨Z8_0,Z8_1,Z8_2,Z8_3⟩:=zc4 BK494;obtain ⟨V8_0,V8_1,V8_2,V8_3⟩:=zf4 BK494)|((with_reducible refine gate_callee (f:=37) rfl ?_);refine zL (some 7) Tryz.func37 #[.agg #[.int .i64 a0_0,.int .i64 a0_1,.int .i64 a0_2,.int .i64 a0_3]] ?_;(with_reducible refine (impl_IsField.calls a0_0 a0_1 a0_2 a0_3 true _ A2.1).mono ?_);rintro e w9 ⟨rfl,hb⟩;refine ⟨_,rfl,?_⟩;refine zA2 (zY BK494.1 hb) (below_step (zH1 HB.1 GE494.1) hb) ?_;clear BK494 HB;intro BK494 HB;(try clear hb)))
   refine zA2 (blk_drew BK494.1) (below_drew1 HB.1) ?_
   clear BK494 HB
   intro BK494 HB
   refine start_ (n:=11) (S:=fun w'=>w'.cell? ⟨gb494,0,none⟩=some (.int .i64 a0_0)∧w'.cell? ⟨gb494,1,none⟩=some (.int .i64 a0_1)∧w'.cell? ⟨gb494,2,none⟩=some (.int .i64 a0_2)∧w'.cell? ⟨gb494,3,none⟩=some (.int .i64 a0_3)) (ds:=[]) #[false,false,false,false,false,false,false,false,false,false,false] (by kernel_rfl) rfl rfl ⟨zx BK494 0,zx BK494 1,zx BK494 2,zx BK494 3⟩ (fun hHeld=>?_);refine with_tabW impl_FindKept.tab3 impl_FindKept.bits3 (fun HT_ HW_=>?_)
   generalize w9.drew=w10 at BK494 HB hHeld ⊢
   refine zP HT_ 2 (some 12) rfl rfl ?_
   refine zT HT_ HW_ hHeld 0 (some 10) rfl rfl ?_
   refine zT HT_ HW_ hHeld 3 (some 13) rfl rfl ?_
   refine one_ (i:=1) (N:=some 11) #[true,true,true,true,false,false,false,false,false,false,false] rfl rfl (one_of HT_.1 (by kernel_rfl)) (by decide) (fun K hK=>?_)
   refine Kd.R_lit_step (Kd.int .i64) _ 2 ?hg (N:=11) ?hd (xs:=([(-1)]:List Int)) (inner:=[.int .i64 (-1)]) (ok:=fun _=>True) (okp:=fun _=>True) ?hr ?hp (fun _ hk=>hk) trivial (Below.refl _ _) (Nat.le_refl _) (by simp) ?_;(case hd=>rfl);(case hg=>rfl);(case hr=>first|(go_simp;done)|(go_simp;rfl));(case hp=>exact (Reps.one (show Kd.M (Kd.int .i64) _ _ _ (-1) [.int .i64 (-1)] from rfl) (Reps.none _ _)))
   intro v497 w11 ho12 hb hg_ hnew_
   clear hg_ hnew_
   (first|rw [← Ny496.1] at ho12|(simp only [Int.reduceToNat] at ho12;rw [← Ny496.1] at ho12))
   refine zA3 (Kd.R_lower ho12 (below_size (zH1 HB.1 GE494.1))) (zY BK494.1 hb) (below_step (zH1 HB.1 GE494.1) hb) ?_
   clear BK494 HB
   intro HO498 BK494 HB
   clear hb ho12
   obtain ⟨Ao13,co13,eo13⟩:=Kd.R_slice HO498.1
   (first|subst eo13|(injection eo13 with f1_ f2_ f3_;have f4_:=f1_.symm;have f5_:=f3_.symm;clear f1_ f2_ f3_;subst f4_;subst f5_))
   refine hK.out _ _ ⟨zx BK494 0,zx BK494 1,zx BK494 2,zx BK494 3⟩ (fun hHeld=>?_)
   clear hK K
   refine zW (some 11) ?_
   refine one_ (i:=4) (N:=some 14) #[true,true,true,true,true,false,false,false,false,false,false] rfl rfl (one_of HT_.1 (by kernel_rfl)) (by decide) (fun K hK=>?_)
   refine goes_ Tryz.func46 (by kernel_rfl) rfl #[.slice Ao13 y496.length co13,.int .i64 a0_0] (by rfl) rfl rfl zM ?_
   with_reducible refine (slices_Repeat.calls _ _ y496 a0_0 t499 _ ?side1 ?side2 A4.1).mono ?_
   (case side1=>repeat (first|exact (Kd.R_reads' HO498.1).2.2|(with_reducible refine Kd.C_alloc ?_ _)|(with_reducible refine Kd.C_drewN ?_ _)|(with_reducible refine Kd.C_drew ?_)))
   (case side2=>exact (Kd.R_reads' HO498.1).2.1)
   rintro e w14 ⟨v500,rfl,ho0,hb⟩
   refine ⟨_,rfl,?_⟩
   refine zA4 (Kd.R_elder' (zR HO498.1) (Kd.R_base ho0) hb) (Kd.R_lower (Kd.R_new' ho0 (Kd.R_lt (zR HO498.1))) (below_size (zH1 HB.1 GE494.1))) (zY BK494.1 hb) (below_step (zH1 HB.1 GE494.1) hb) ?_
   clear HO498 BK494 HB
   intro HO498 HO501 BK494 HB
   (try clear hb)
   (try clear hb2)
   (try clear hk)
   (try clear hi)
   (try clear ho0)
   obtain ⟨Ao15,co15,eo15⟩:=Kd.R_slice HO501.1
   (first|subst eo15|(injection eo15 with f1_ f2_ f3_;have f4_:=f1_.symm;have f5_:=f3_.symm;clear f1_ f2_ f3_;subst f4_;subst f5_))
   refine hK.out _ _ ⟨zx BK494 0,zx BK494 1,zx BK494 2,zx BK494 3⟩ (fun hHeld=>?_)
   clear hK K
   refine zW (some 14) ?_
   refine one_ (i:=5) (N:=some 15) #[true,true,true,true,true,true,false,false,false,false,false] rfl rfl (one_of HT_.1 (by kernel_rfl)) (by decide) (fun K hK=>?_)
   refine goes_ Tryz.func45 (by kernel_rfl) rfl #[.agg #[.int .i64 a0_0,.int .i64 a0_1,.int .i64 a0_2,.int .i64 a0_3],.slice Ao15 t499.length co15] (by rfl) rfl rfl zM ?_
   with_reducible refine (impl_Field_matchFrom.calls k a0_0 a0_1 a0_2 a0_3 (fun k_=>some k_=(.slice Ao15 t499.length co15:Value).ownBlock) (.slice Ao15 t499.length co15) t499 t502 true w _ ?side1 ?side2 A5.1).mono ?_
   (case side1=>exact zH1 HB.1 GE494.1)
   (case side2=>exact Kd.R_tight rfl HO501.1)
   rintro e w16 ⟨v503,rfl,ho0,hb,hkp⟩
   refine ⟨_,rfl,?_⟩
   refine zA4 (blk_kept (zB BK494.1) hkp (fun hs_=>(fun e_=>(Kd.R_ne HO501.1 BK494.1 (by decide)) e_) hs_)) (Kd.R_mono (ok':=fun k_=>some k_≠(v503:Value).ownBlock) (Kd.R_keptB (HO498.1) hkp (fun k_ hk_ hs_=>(hk_.2) hs_)) (fun k_ hk_=>fun e_=>Or.elim (ho0.1 k_ e_.symm) (fun hs_=>hk_.2.1 hs_) (fun hn_=>Nat.not_le.2 hk_.2.2 hn_))) (Kd.R_mono (ok':=fun k_=>some k_≠(.slice Ao13 y496.length co13:Value).ownBlock) ho0 (fun k_ hk_=>Or.elim hk_ (fun hs_=>fun e_=>(((HO498.1).1 k_ e_.symm).2) hs_) (fun hn_=>(Kd.fresh' (Kd.R_lt (zR HO498.1)) k_ hn_)))) (hb) ?_
   clear BK494 HO498 HB HO501
   intro BK494 HO498 HO504 HB
   (try clear hb)
   (try clear hkp)
   (try clear ho0)
   refine hK.out _ _ ⟨zx BK494 0,zx BK494 1,zx BK494 2,zx BK494 3⟩ (fun hHeld=>?_)
   clear hK K
   refine zW (some 15) ?_
   refine zP HT_ 6 (some 9) rfl rfl ?_
   refine zP HT_ 7 (some 16) rfl rfl ?_
   refine zP HT_ 8 (some 17) rfl rfl ?_
   refine zP HT_ 9 (some 4) rfl rfl ?_
   refine zP HT_ 10 (some 5) rfl rfl ?_
   refine done_ (done_of HT_.1 (by kernel_rfl)) ?_
   try go_wp2
   go_ret2
   exact ⟨_,zE,by (with_reducible repeat (first|apply Kd.R_alloc|apply Kd.R_drewN|apply Kd.R_drew));exact Kd.R_mono HO504.1 (fun _ hk=>trivial),zH1 HB.1 GE494.1⟩
  ·replace c6:=Bool.eq_false_iff.mpr c6
   subst c6
   have H1:(some (([]:List Int),4))=some (r1,r2):=by rw [if_neg (show ¬ (false=true) by decide)] at H;exact H
   clear H
   have H:=H1
   clear H1
   simp only [Option.some.injEq,Prod.mk.injEq] at H
   obtain ⟨rfl,rfl⟩:=H
   go_enter Tryz.func16,Tryz.ntmps16
   try go_wp2_with (first|((with_reducible refine gate_dst (N:=1) rfl ?_);refine zX 1 #[.int .i64 a0_0,.int .i64 a0_1,.int .i64 a0_2,.int .i64 a0_3] 25 ?_;intro gb494 hg w17 hbox hb;refine zA4 (below_step (zH HB.1) hb) (hbox) (zs hg HB:w.heap.size≤gb494) (zs hg HB:w.heap.size≤gb494) ?_;clear HB;intro HB BK494 GW494 GE494;clear hb hbox hg;obtain ⟨Z18_0,Z18_1,Z18_2,Z18_3⟩:=zc4 BK494;obtain ⟨V18_0,V18_1,V18_2,V18_3⟩:=zf4 BK494)|((with_reducible refine gate_callee (f:=37) rfl ?_);refine zL (some 7) Tryz.func37 #[.agg #[.int .i64 a0_0,.int .i64 a0_1,.int .i64 a0_2,.int .i64 a0_3]] ?_;(with_reducible refine (impl_IsField.calls a0_0 a0_1 a0_2 a0_3 true _ A2.1).mono ?_);rintro e w19 ⟨rfl,hb⟩;refine ⟨_,rfl,?_⟩;refine zA2 (zY BK494.1 hb) (below_step (zH1 HB.1 GE494.1) hb) ?_;clear BK494 HB;intro BK494 HB;(try clear hb)))
   refine zA2 (blk_drew BK494.1) (below_drew1 HB.1) ?_
   clear BK494 HB
   intro BK494 HB
   refine start_ (n:=11) (S:=fun w'=>w'.cell? ⟨gb494,0,none⟩=some (.int .i64 a0_0)∧w'.cell? ⟨gb494,1,none⟩=some (.int .i64 a0_1)∧w'.cell? ⟨gb494,2,none⟩=some (.int .i64 a0_2)∧w'.cell? ⟨gb494,3,none⟩=some (.int .i64 a0_3)) (ds:=[]) #[false,false,false,false,false,false,false,false,false,false,false] (by kernel_rfl) rfl rfl ⟨zx BK494 0,zx BK494 1,zx BK494 2,zx BK494 3⟩ (fun hHeld=>?_);refine with_tabW impl_FindKept.tab3 impl_FindKept.bits3 (fun HT_ HW_=>?_)
   generalize w19.drew=w20 at BK494 HB hHeld ⊢
   refine zP HT_ 2 (some 12) rfl rfl ?_
   refine zT HT_ HW_ hHeld 0 (some 10) rfl rfl ?_
   refine zT HT_ HW_ hHeld 3 (some 13) rfl rfl ?_
   refine one_ (i:=1) (N:=some 11) #[true,true,true,true,false,false,false,false,false,false,false] rfl rfl (one_of HT_.1 (by kernel_rfl)) (by decide) (fun K hK=>?_)
   refine Kd.R_lit_step (Kd.int .i64) _ 2 ?hg (N:=11) ?hd (xs:=([(-1)]:List Int)) (inner:=[.int .i64 (-1)]) (ok:=fun _=>True) (okp:=fun _=>True) ?hr ?hp (fun _ hk=>hk) trivial (Below.refl _ _) (Nat.le_refl _) (by simp) ?_;(case hd=>rfl);(case hg=>rfl);(case hr=>first|(go_simp;done)|(go_simp;rfl));(case hp=>exact (Reps.one (show Kd.M (Kd.int .i64) _ _ _ (-1) [.int .i64 (-1)] from rfl) (Reps.none _ _)))
   intro v497 w21 ho22 hb hg_ hnew_
   clear hg_ hnew_
   (first|rw [← Ny496.1] at ho22|(simp only [Int.reduceToNat] at ho22;rw [← Ny496.1] at ho22))
   refine zA3 (Kd.R_lower ho22 (below_size (zH1 HB.1 GE494.1))) (zY BK494.1 hb) (below_step (zH1 HB.1 GE494.1) hb) ?_
   clear BK494 HB
   intro HO498 BK494 HB
   clear hb ho22
   obtain ⟨Ao23,co23,eo23⟩:=Kd.R_slice HO498.1
   (first|subst eo23|(injection eo23 with f1_ f2_ f3_;have f4_:=f1_.symm;have f5_:=f3_.symm;clear f1_ f2_ f3_;subst f4_;subst f5_))
   refine hK.out _ _ ⟨zx BK494 0,zx BK494 1,zx BK494 2,zx BK494 3⟩ (fun hHeld=>?_)
   clear hK K
   refine zW (some 11) ?_
   refine one_ (i:=4) (N:=some 14) #[true,true,true,true,true,false,false,false,false,false,false] rfl rfl (one_of HT_.1 (by kernel_rfl)) (by decide) (fun K hK=>?_)
   refine goes_ Tryz.func46 (by kernel_rfl) rfl #[.slice Ao23 y496.length co23,.int .i64 a0_0] (by rfl) rfl rfl zM ?_
   with_reducible refine (slices_Repeat.calls _ _ y496 a0_0 t499 _ ?side1 ?side2 A4.1).mono ?_
   (case side1=>repeat (first|exact (Kd.R_reads' HO498.1).2.2|(with_reducible refine Kd.C_alloc ?_ _)|(with_reducible refine Kd.C_drewN ?_ _)|(with_reducible refine Kd.C_drew ?_)))
   (case side2=>exact (Kd.R_reads' HO498.1).2.1)
   rintro e w24 ⟨v500,rfl,ho0,hb⟩
   refine ⟨_,rfl,?_⟩
   refine zA4 (Kd.R_elder' (zR HO498.1) (Kd.R_base ho0) hb) (Kd.R_lower (Kd.R_new' ho0 (Kd.R_lt (zR HO498.1))) (below_size (zH1 HB.1 GE494.1))) (zY BK494.1 hb) (below_step (zH1 HB.1 GE494.1) hb) ?_
   clear HO498 BK494 HB
   intro HO498 HO501 BK494 HB
   (try clear hb)
   (try clear hb2)
   (try clear hk)
   (try clear hi)
   (try clear ho0)
   obtain ⟨Ao25,co25,eo25⟩:=Kd.R_slice HO501.1
   (first|subst eo25|(injection eo25 with f1_ f2_ f3_;have f4_:=f1_.symm;have f5_:=f3_.symm;clear f1_ f2_ f3_;subst f4_;subst f5_))
   refine hK.out _ _ ⟨zx BK494 0,zx BK494 1,zx BK494 2,zx BK494 3⟩ (fun hHeld=>?_)
   clear hK K
   refine zW (some 14) ?_
   refine one_ (i:=5) (N:=some 15) #[true,true,true,true,true,true,false,false,false,false,false] rfl rfl (one_of HT_.1 (by kernel_rfl)) (by decide) (fun K hK=>?_)
   refine goes_ Tryz.func45 (by kernel_rfl) rfl #[.agg #[.int .i64 a0_0,.int .i64 a0_1,.int .i64 a0_2,.int .i64 a0_3],.slice Ao25 t499.length co25] (by rfl) rfl rfl zM ?_
   with_reducible refine (impl_Field_matchFrom.calls k a0_0 a0_1 a0_2 a0_3 (fun k_=>some k_=(.slice Ao25 t499.length co25:Value).ownBlock) (.slice Ao25 t499.length co25) t499 t502 false w _ ?side1 ?side2 A5.1).mono ?_
   (case side1=>exact zH1 HB.1 GE494.1)
   (case side2=>exact Kd.R_tight rfl HO501.1)
   rintro e w26 ⟨v503,rfl,ho0,hb,hkp⟩
   refine ⟨_,rfl,?_⟩
   refine zA4 (blk_kept (zB BK494.1) hkp (fun hs_=>(fun e_=>(Kd.R_ne HO501.1 BK494.1 (by decide)) e_) hs_)) (Kd.R_mono (ok':=fun k_=>some k_≠(v503:Value).ownBlock) (Kd.R_keptB (HO498.1) hkp (fun k_ hk_ hs_=>(hk_.2) hs_)) (fun k_ hk_=>fun e_=>Or.elim (ho0.1 k_ e_.symm) (fun hs_=>hk_.2.1 hs_) (fun hn_=>Nat.not_le.2 hk_.2.2 hn_))) (Kd.R_mono (ok':=fun k_=>some k_≠(.slice Ao23 y496.length co23:Value).ownBlock) ho0 (fun k_ hk_=>Or.elim hk_ (fun hs_=>fun e_=>(((HO498.1).1 k_ e_.symm).2) hs_) (fun hn_=>(Kd.fresh' (Kd.R_lt (zR HO498.1)) k_ hn_)))) (hb) ?_
   clear BK494 HO498 HB HO501
   intro BK494 HO498 HO504 HB
   (try clear hb)
   (try clear hkp)
   (try clear ho0)
   refine hK.out _ _ ⟨zx BK494 0,zx BK494 1,zx BK494 2,zx BK494 3⟩ (fun hHeld=>?_)
   clear hK K
   refine zW (some 15) ?_
   refine zP HT_ 6 (some 9) rfl rfl ?_
   refine zP HT_ 7 (some 16) rfl rfl ?_
   refine zP HT_ 8 (some 17) rfl rfl ?_
   refine zP HT_ 9 (some 4) rfl rfl ?_
   refine zP HT_ 10 (some 5) rfl rfl ?_
   refine done_ (done_of HT_.1 (by kernel_rfl)) ?_
   try go_wp2
   go_ret2
   exact ⟨_,zE,by first|exact Kd.R_nil _ _ _ _ _|exact Kd.N_nil _ _ _ _ _|exact Kd.V_nil _ _ _ _ _|exact Kd.Q_nil _ _ _ _ _|exact Kd.S_nil _ _ _ _ _,zH1 HB.1 GE494.1⟩
 ·replace c3:=Bool.eq_false_iff.mpr c3
  subst c3
  have H1:(some (([]:List Int),1))=some (r1,r2):=by rw [if_neg (show ¬ (false=true) by decide)] at H;exact H
  clear H
  have H:=H1
  clear H1
  simp only [Option.some.injEq,Prod.mk.injEq] at H
  obtain ⟨rfl,rfl⟩:=H
  go_enter Tryz.func16,Tryz.ntmps16
  go_wp2_with (first|((with_reducible refine gate_dst (N:=1) rfl ?_);refine zX 1 #[.int .i64 a0_0,.int .i64 a0_1,.int .i64 a0_2,.int .i64 a0_3] 25 ?_;intro gb494 hg w27 hbox hb;refine zA4 (below_step (zH HB.1) hb) (hbox) (zs hg HB:w.heap.size≤gb494) (zs hg HB:w.heap.size≤gb494) ?_;clear HB;intro HB BK494 GW494 GE494;clear hb hbox hg;obtain ⟨Z28_0,Z28_1,Z28_2,Z28_3⟩:=zc4 BK494;obtain ⟨V28_0,V28_1,V28_2,V28_3⟩:=zf4 BK494)|((with_reducible refine gate_callee (f:=37) rfl ?_);refine zL (some 7) Tryz.func37 #[.agg #[.int .i64 a0_0,.int .i64 a0_1,.int .i64 a0_2,.int .i64 a0_3]] ?_;(with_reducible refine (impl_IsField.calls a0_0 a0_1 a0_2 a0_3 false _ A2.1).mono ?_);rintro e w29 ⟨rfl,hb⟩;refine ⟨_,rfl,?_⟩;refine zA2 (zY BK494.1 hb) (below_step (zH1 HB.1 GE494.1) hb) ?_;clear BK494 HB;intro BK494 HB;(try clear hb)))
  go_ret2
  exact ⟨_,zE,by first|exact Kd.R_nil _ _ _ _ _|exact Kd.N_nil _ _ _ _ _|exact Kd.V_nil _ _ _ _ _|exact Kd.Q_nil _ _ _ _ _|exact Kd.S_nil _ _ _ _ _,zH1 HB.1 GE494.1⟩
end Go.Proofs.YtlmohkbimnhecaaGreat.Q
