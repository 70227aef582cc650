import Derived.Test.YtlmohkbimnhecaaGreatQ0
import Derived.Test.YtlmohkbimnhecaaGreatSq
import Derived.Test.YtlmohkbimnhecaaGreatQ1
import Derived.Test.YtlmohkbimnhecaaGreatQ3
set_option maxHeartbeats 8000000
set_option maxRecDepth 100000
namespace Go.Proofs.YtlmohkbimnhecaaGreat.Q
open Go.RowKit Go.Proofs.YtlmohkbimnhecaaGreatW.PrintWords Go.Proofs.YtlmohkbimnhecaaGreatW.PrintLast Go.Proofs.YtlmohkbimnhecaaGreatW.PrintMore
attribute [local go_sem] max2_int min2_int max_two min_two max_three min_three max_four min_four
set_option linter.unusedVariables false
set_option linter.unusedSimpArgs false
def impl_fieldCode.j0:Nat→Int→Int→Int→Int→Int→Int→Option (Int)
 |0,_,_,_,_,_,_=>none
 |k+1,x1,x7,x297000,x297001,x297002,x297003=>if x7=0 then ((impl_Field_isFair.f k x297000 x297001 x297002 x297003 x1).bind fun t308=>((impl_first.f k (([(⟨t308,5⟩:S70)]:List (S70)))).bind fun t312=>(some t312))) else (some x7)
def impl_fieldCode.f (k:Nat) (a0_0:Int) (a0_1:Int) (a0_2:Int) (a0_3:Int) (a1:Int) (a2:Int):Option (Int):=(impl_IsField.f a0_0 a0_1 a0_2 a0_3).bind fun t297=>((impl_isBit.f a1).bind fun t298=>(if t298=true then ((impl_isBit.f a2).bind fun t299=>((impl_first.f k (([(⟨t297,1⟩:S70),(⟨t299,2⟩:S70)]:List (S70)))).bind fun t303=>(impl_fieldCode.j0 k a1 t303 a0_0 a0_1 a0_2 a0_3))) else ((impl_first.f k (([(⟨t297,1⟩:S70),(⟨false,2⟩:S70)]:List (S70)))).bind fun t307=>(impl_fieldCode.j0 k a1 t307 a0_0 a0_1 a0_2 a0_3))))
theorem impl_fieldCode.mono_l:∀ k,(∀ y0 y1 y2 y3 y4 y5,LeO (impl_fieldCode.j0 k y0 y1 y2 y3 y4 y5) (impl_fieldCode.j0 (k+1) y0 y1 y2 y3 y4 y5))
 |0=>fun _ _ _ _ _ _ r h=>by simp [impl_fieldCode.j0] at h
 |k+1=>by
  have ih0:=impl_fieldCode.mono_l k
  ·intro y0 y1 y2 y3 y4 y5
   unfold impl_fieldCode.j0
   exact zO2 @impl_Field_isFair.mono @impl_first.mono
theorem impl_fieldCode.mono:∀ a0 a1 a2 a3 a4 a5 k,LeO (impl_fieldCode.f k a0 a1 a2 a3 a4 a5) (impl_fieldCode.f (k+1) a0 a1 a2 a3 a4 a5):=by
 intro a0 a1 a2 a3 a4 a5 k
 have ih0:=impl_fieldCode.mono_l k
 unfold impl_fieldCode.f
 exact zO2 @impl_Field_isFair.mono @impl_first.mono
theorem impl_fieldCode.calls (k:Nat) (a0_0:Int) (a0_1:Int) (a0_2:Int) (a0_3:Int) (a1:Int) (a2:Int) (r:Int) (w:World) (h:impl_fieldCode.f k a0_0 a0_1 a0_2 a0_3 a1 a2=some r):
 Calls Tryz.prog 27 #[.agg #[.int .i64 a0_0,.int .i64 a0_1,.int .i64 a0_2,.int .i64 a0_3],.int .i64 a1,.int .i64 a2] w fun e w'=>e=.returned (.int .i64 r)∧Below w.heap.size w w':=by
 have hu25:=Tryz.underlying25
 have hu70:=Tryz.underlying70
 have HB:=Aside0.mk (Below.refl w.heap.size w)
 have H:((impl_IsField.f a0_0 a0_1 a0_2 a0_3).bind fun t297=>((impl_isBit.f a1).bind fun t298=>(if t298=true then ((impl_isBit.f a2).bind fun t299=>((impl_first.f k (([(⟨t297,1⟩:S70),(⟨t299,2⟩:S70)]:List (S70)))).bind fun t303=>(impl_fieldCode.j0 k a1 t303 a0_0 a0_1 a0_2 a0_3))) else ((impl_first.f k (([(⟨t297,1⟩:S70),(⟨false,2⟩:S70)]:List (S70)))).bind fun t307=>(impl_fieldCode.j0 k a1 t307 a0_0 a0_1 a0_2 a0_3)))))=some r:=h
 clear h
 have HC4:=Aside0.mk H
 clear H
 go_enter Tryz.func27,Tryz.ntmps27
 go_upto_region 1 with (first|((with_reducible refine gate_dst (N:=3) rfl ?_);refine zX 3 #[.int .i64 a0_0,.int .i64 a0_1,.int .i64 a0_2,.int .i64 a0_3] 25 ?_;intro gb296 hg w5 hbox hb;refine zA4 (below_step (zH HB.1) hb) (hbox) (zs hg HB:w.heap.size≤gb296) (zs hg HB:w.heap.size≤gb296) ?_;clear HB;intro HB BK296 GW296 GE296;clear hb hbox hg))
 (try simp only [Act.put,List.setIfInBounds_toArray,List.set_cons_zero,List.set_cons_succ])
 go_cut [7] (fun v7 wc=>∃ (kq:Nat) (x7_3:Int),v7=.int .i64 x7_3∧Aside0 (impl_fieldCode.j0 kq a1 x7_3 a0_0 a0_1 a0_2 a0_3=some r)∧Aside0 (kq≤k)∧Aside0 (wc.heap[gb296]?=some (.cells #[.int .i64 a0_0,.int .i64 a0_1,.int .i64 a0_2,.int .i64 a0_3] 25 (0,0)))∧Aside0 (Below w.heap.size w wc))
 case first=>
  have H:=HC4.1
  clear HC4
  obtain ⟨t297,A6,H⟩:=zb H
  obtain ⟨t298,A7,H⟩:=zb H
  by_cases c8:t298=true
  ·subst c8
   have H1:((impl_isBit.f a2).bind fun t299=>((impl_first.f k (([(⟨t297,1⟩:S70),(⟨t299,2⟩:S70)]:List (S70)))).bind fun t303=>(impl_fieldCode.j0 k a1 t303 a0_0 a0_1 a0_2 a0_3)))=some r:=by rw [if_pos rfl] at H;exact H
   clear H
   have H:=H1
   clear H1
   obtain ⟨t299,A9,H⟩:=zb H
   obtain ⟨y300,hy300⟩:∃ y_:List (S70),y_=(([(⟨t297,1⟩:S70),(⟨t299,2⟩:S70)]:List (S70))):=⟨_,rfl⟩
   replace H:((impl_first.f k y300).bind fun t303=>(impl_fieldCode.j0 k a1 t303 a0_0 a0_1 a0_2 a0_3))=some r:=by first|(rw [hy300];with_reducible exact H)|(have H2_:=(Option.bind_some _ _).symm.trans H;rw [hy300];with_reducible exact H2_)|(have H2_:=(Option.bind_some _ _).symm.trans H;with_reducible exact H2_)|with_reducible exact H|(rw [hy300];exact H)|exact H
   have Ny300:=Aside0.mk hy300
   clear hy300
   obtain ⟨t303,A10,H⟩:=zb H
   have H':=Aside0.mk H
   clear H
   obtain ⟨Z11_0,Z11_1,Z11_2,Z11_3⟩:=zc4 BK296
   obtain ⟨V11_0,V11_1,V11_2,V11_3⟩:=zf4 BK296
   go_wp2_with (first|((with_reducible refine gate_callee (f:=37) rfl ?_);refine zL (some 9) Tryz.func37 #[.agg #[.int .i64 a0_0,.int .i64 a0_1,.int .i64 a0_2,.int .i64 a0_3]] ?_;(with_reducible refine (impl_IsField.calls a0_0 a0_1 a0_2 a0_3 t297 _ A6.1).mono ?_);rintro e w12 ⟨rfl,hb⟩;refine ⟨_,rfl,?_⟩;refine zA2 (zY BK296.1 hb) (below_step (zH1 HB.1 GE296.1) hb) ?_;clear BK296 HB;intro BK296 HB;(try clear hb);(try clear hk))|((with_reducible refine gate_callee (f:=64) rfl ?_);refine zL (some 12) Tryz.func64 #[.int .i64 a1] ?_;(with_reducible refine (impl_isBit.calls a1 true _ A7.1).mono ?_);rintro e w' ⟨rfl,⟨nd,rfl⟩⟩;refine ⟨_,rfl,?_⟩)|(go_at_call 64;(with_reducible refine (impl_isBit.calls a2 t299 _ A9.1).mono ?_);rintro e w' ⟨rfl,⟨nd,rfl⟩⟩)|((with_reducible refine gate_dst (N:=18) rfl ?_);refine Kd.R_lit k70 _ 70 ?hg (N:=18) ?hd (xs:=([(⟨t297,1⟩:S70),(⟨t299,2⟩:S70)]:List (S70))) (inner:=[.bool t297,.int .i64 1,.bool t299,.int .i64 2]) (ok:=fun _=>True) (okp:=fun _=>True) ?hr ?hp (fun _ hk=>hk) trivial (Below.refl _ _) (Nat.le_refl _) (by simp) ?_;(case hd=>rfl);(case hg=>rfl);(case hr=>first|(go_simp;done)|(go_simp;rfl));(case hp=>exact (Reps.c2 (show Kd.M k70 _ _ _ (⟨t297,1⟩:S70) [.bool t297,.int .i64 1] from (k70_mkM _ _ _ (⟨t297,1⟩:S70) )) (Reps.c2 (show Kd.M k70 _ _ _ (⟨t299,2⟩:S70) [.bool t299,.int .i64 2] from (k70_mkM _ _ _ (⟨t299,2⟩:S70) )) (Reps.none _ _))));intro v301 w13 ho14 hb hg_ hnew_;clear hg_ hnew_;(first|rw [← Ny300.1] at ho14|(simp only [Int.reduceToNat] at ho14;rw [← Ny300.1] at ho14));refine zA3 (Kd.R_lower ho14 (below_size (zH1 HB.1 GE296.1))) (zY BK296.1 hb) (below_step (zH1 HB.1 GE296.1) hb) ?_;clear BK296 HB;intro HO302 BK296 HB;clear hb ho14;obtain ⟨Ao15,co15,eo15⟩:=Kd.R_slice HO302.1;subst eo15)|((with_reducible refine gate_callee (f:=38) rfl ?_);refine zL (some 19) Tryz.func38 #[.slice Ao15 y300.length co15] ?_;(with_reducible refine (impl_first.calls k _ _ y300 t303 _ ?side1 ?side2 A10.1).mono ?_);(case side1=>repeat (first|exact (Kd.R_reads' HO302.1).2.2|(with_reducible refine Kd.C_alloc ?_ _)|(with_reducible refine Kd.C_drewN ?_ _)|(with_reducible refine Kd.C_drew ?_)));(case side2=>exact (Kd.R_reads' HO302.1).2.1);rintro e w16 ⟨rfl,hb⟩;refine ⟨_,rfl,?_⟩;refine zA3 (Kd.R_below (zR HO302.1) hb) (zY BK296.1 hb) (below_step (zH1 HB.1 GE296.1) hb) ?_;clear HO302 BK296 HB;intro HO302 BK296 HB;(try clear hb);(try clear hk)))
   go_meet
   case rel=>exact ⟨_,(t303),(zF),H',⟨by first|omega|exact Nat.le_refl _⟩,⟨zB BK296.1⟩,⟨zH1 HB.1 GE296.1⟩⟩
  ·replace c8:=Bool.eq_false_iff.mpr c8
   subst c8
   have H1:((impl_first.f k (([(⟨t297,1⟩:S70),(⟨false,2⟩:S70)]:List (S70)))).bind fun t307=>(impl_fieldCode.j0 k a1 t307 a0_0 a0_1 a0_2 a0_3))=some r:=by rw [if_neg (show ¬ (false=true) by decide)] at H;exact H
   clear H
   have H:=H1
   clear H1
   obtain ⟨y304,hy304⟩:∃ y_:List (S70),y_=(([(⟨t297,1⟩:S70),(⟨false,2⟩:S70)]:List (S70))):=⟨_,rfl⟩
   replace H:((impl_first.f k y304).bind fun t307=>(impl_fieldCode.j0 k a1 t307 a0_0 a0_1 a0_2 a0_3))=some r:=by first|(rw [hy304];with_reducible exact H)|(have H2_:=(Option.bind_some _ _).symm.trans H;rw [hy304];with_reducible exact H2_)|(have H2_:=(Option.bind_some _ _).symm.trans H;with_reducible exact H2_)|with_reducible exact H|(rw [hy304];exact H)|exact H
   have Ny304:=Aside0.mk hy304
   clear hy304
   obtain ⟨t307,A17,H⟩:=zb H
   have H':=Aside0.mk H
   clear H
   obtain ⟨Z18_0,Z18_1,Z18_2,Z18_3⟩:=zc4 BK296
   obtain ⟨V18_0,V18_1,V18_2,V18_3⟩:=zf4 BK296
   go_wp2_with (first|((with_reducible refine gate_callee (f:=37) rfl ?_);refine zL (some 9) Tryz.func37 #[.agg #[.int .i64 a0_0,.int .i64 a0_1,.int .i64 a0_2,.int .i64 a0_3]] ?_;(with_reducible refine (impl_IsField.calls a0_0 a0_1 a0_2 a0_3 t297 _ A6.1).mono ?_);rintro e w19 ⟨rfl,hb⟩;refine ⟨_,rfl,?_⟩;refine zA2 (zY BK296.1 hb) (below_step (zH1 HB.1 GE296.1) hb) ?_;clear BK296 HB;intro BK296 HB;(try clear hb);(try clear hk))|((with_reducible refine gate_callee (f:=64) rfl ?_);refine zL (some 12) Tryz.func64 #[.int .i64 a1] ?_;(with_reducible refine (impl_isBit.calls a1 false _ A7.1).mono ?_);rintro e w' ⟨rfl,⟨nd,rfl⟩⟩;refine ⟨_,rfl,?_⟩)|((with_reducible refine gate_dst (N:=18) rfl ?_);refine Kd.R_lit k70 _ 70 ?hg (N:=18) ?hd (xs:=([(⟨t297,1⟩:S70),(⟨false,2⟩:S70)]:List (S70))) (inner:=[.bool t297,.int .i64 1,.bool false,.int .i64 2]) (ok:=fun _=>True) (okp:=fun _=>True) ?hr ?hp (fun _ hk=>hk) trivial (Below.refl _ _) (Nat.le_refl _) (by simp) ?_;(case hd=>rfl);(case hg=>rfl);(case hr=>first|(go_simp;done)|(go_simp;rfl));(case hp=>exact (Reps.c2 (show Kd.M k70 _ _ _ (⟨t297,1⟩:S70) [.bool t297,.int .i64 1] from (k70_mkM _ _ _ (⟨t297,1⟩:S70) )) (Reps.c2 (show Kd.M k70 _ _ _ (⟨false,2⟩:S70) [.bool false,.int .i64 2] from (k70_mkM _ _ _ (⟨false,2⟩:S70) )) (Reps.none _ _))));intro v305 w20 ho21 hb hg_ hnew_;clear hg_ hnew_;(first|rw [← Ny304.1] at ho21|(simp only [Int.reduceToNat] at ho21;rw [← Ny304.1] at ho21));refine zA3 (Kd.R_lower ho21 (below_size (zH1 HB.1 GE296.1))) (zY BK296.1 hb) (below_step (zH1 HB.1 GE296.1) hb) ?_;clear BK296 HB;intro HO306 BK296 HB;clear hb ho21;obtain ⟨Ao22,co22,eo22⟩:=Kd.R_slice HO306.1;subst eo22)|((with_reducible refine gate_callee (f:=38) rfl ?_);refine zL (some 19) Tryz.func38 #[.slice Ao22 y304.length co22] ?_;(with_reducible refine (impl_first.calls k _ _ y304 t307 _ ?side1 ?side2 A17.1).mono ?_);(case side1=>repeat (first|exact (Kd.R_reads' HO306.1).2.2|(with_reducible refine Kd.C_alloc ?_ _)|(with_reducible refine Kd.C_drewN ?_ _)|(with_reducible refine Kd.C_drew ?_)));(case side2=>exact (Kd.R_reads' HO306.1).2.1);rintro e w23 ⟨rfl,hb⟩;refine ⟨_,rfl,?_⟩;refine zA3 (Kd.R_below (zR HO306.1) hb) (zY BK296.1 hb) (below_step (zH1 HB.1 GE296.1) hb) ?_;clear HO306 BK296 HB;intro HO306 BK296 HB;(try clear hb);(try clear hk)))
   go_meet
   case rel=>exact ⟨_,(t307),(zF),H',⟨by first|omega|exact Nat.le_refl _⟩,⟨zB BK296.1⟩,⟨zH1 HB.1 GE296.1⟩⟩
 case rest=>
  clear HC4
  try clear c2
  try clear p2
  try clear c3
  try clear c6
  try clear c8
  try clear Z11_0 Z11_1 Z11_2 Z11_3
  try clear Z18_0 Z18_1 Z18_2 Z18_3
  try clear V11_0 V11_1 V11_2 V11_3
  try clear V18_0 V18_1 V18_2 V18_3
  obtain ⟨kq,x7_3,rfl,HA,HJ3,BK296,HB⟩:=hcut
  cases kq with
  |zero=>exact absurd HA.1 (by simp [impl_fieldCode.j0])
  |succ kj3=>
   have H:=HA.1
   clear HA
   simp only [impl_fieldCode.j0] at H
   by_cases c24:x7_3=0
   ·rw [if_pos c24] at H
    have c24b0:=zq1 c24
    have c24b1:=zq2 c24
    clear c24
    obtain ⟨t308,A25,H⟩:=zb H
    obtain ⟨y309,hy309⟩:∃ y_:List (S70),y_=(([(⟨t308,5⟩:S70)]:List (S70))):=⟨_,rfl⟩
    replace H:((impl_first.f kj3 y309).bind fun t312=>(some t312))=some r:=by first|(rw [hy309];with_reducible exact H)|(have H2_:=(Option.bind_some _ _).symm.trans H;rw [hy309];with_reducible exact H2_)|(have H2_:=(Option.bind_some _ _).symm.trans H;with_reducible exact H2_)|with_reducible exact H|(rw [hy309];exact H)|exact H
    have Ny309:=Aside0.mk hy309
    clear hy309
    obtain ⟨t312,A26,H⟩:=zb H
    obtain rfl:=Option.some.inj H
    obtain ⟨Z27_0,Z27_1,Z27_2,Z27_3⟩:=zc4 BK296
    obtain ⟨V27_0,V27_1,V27_2,V27_3⟩:=zf4 BK296
    go_wp2_with (first|((with_reducible refine gate_callee (f:=65) rfl ?_);refine zL (some 25) Tryz.func65 #[.agg #[.int .i64 a0_0,.int .i64 a0_1,.int .i64 a0_2,.int .i64 a0_3],.int .i64 a1] ?_;(with_reducible refine (impl_Field_isFair.calls kj3 a0_0 a0_1 a0_2 a0_3 a1 t308 _ A25.1).mono ?_);rintro e w28 ⟨rfl,hb⟩;refine ⟨_,rfl,?_⟩;refine zA2 (zY BK296.1 hb) (below_step (zH1 HB.1 GE296.1) hb) ?_;clear BK296 HB;intro BK296 HB;(try clear hb);(try clear hk))|((with_reducible refine gate_dst (N:=27) rfl ?_);refine Kd.R_lit k70 _ 70 ?hg (N:=27) ?hd (xs:=([(⟨t308,5⟩:S70)]:List (S70))) (inner:=[.bool t308,.int .i64 5]) (ok:=fun _=>True) (okp:=fun _=>True) ?hr ?hp (fun _ hk=>hk) trivial (Below.refl _ _) (Nat.le_refl _) (by simp) ?_;(case hd=>rfl);(case hg=>rfl);(case hr=>first|(go_simp;done)|(go_simp;rfl));(case hp=>exact (Reps.c2 (show Kd.M k70 _ _ _ (⟨t308,5⟩:S70) [.bool t308,.int .i64 5] from (k70_mkM _ _ _ (⟨t308,5⟩:S70) )) (Reps.none _ _)));intro v310 w29 ho30 hb hg_ hnew_;clear hg_ hnew_;(first|rw [← Ny309.1] at ho30|(simp only [Int.reduceToNat] at ho30;rw [← Ny309.1] at ho30));refine zA3 (Kd.R_lower ho30 (below_size (zH1 HB.1 GE296.1))) (zY BK296.1 hb) (below_step (zH1 HB.1 GE296.1) hb) ?_;clear BK296 HB;intro HO311 BK296 HB;clear hb ho30;obtain ⟨Ao31,co31,eo31⟩:=Kd.R_slice HO311.1;subst eo31)|((with_reducible refine gate_callee (f:=38) rfl ?_);refine zL (some 28) Tryz.func38 #[.slice Ao31 y309.length co31] ?_;(with_reducible refine (impl_first.calls kj3 _ _ y309 t312 _ ?side1 ?side2 A26.1).mono ?_);(case side1=>repeat (first|exact (Kd.R_reads' HO311.1).2.2|(with_reducible refine Kd.C_alloc ?_ _)|(with_reducible refine Kd.C_drewN ?_ _)|(with_reducible refine Kd.C_drew ?_)));(case side2=>exact (Kd.R_reads' HO311.1).2.1);rintro e w32 ⟨rfl,hb⟩;refine ⟨_,rfl,?_⟩;refine zA3 (Kd.R_below (zR HO311.1) hb) (zY BK296.1 hb) (below_step (zH1 HB.1 GE296.1) hb) ?_;clear HO311 BK296 HB;intro HO311 BK296 HB;(try clear hb);(try clear hk)))
    go_ret
    exact ⟨zE,zH1 HB.1 GE296.1⟩
   ·rw [if_neg c24] at H
    have c24b0:=zq3 c24
    have c24b1:=zq4 c24
    obtain rfl:=Option.some.inj H
    go_wp2
    go_ret
    exact ⟨zE,zH1 HB.1 GE296.1⟩
def impl_Field_coloured.f (a0_0:Int) (a0_1:Int) (a0_2:Int) (a0_3:Int) (a1:Int) (a2:Int):Option (Int×Int×Int×Int):=if a1=0 then (if 0≤a2 then (some (a0_0,a0_1,Go.bits .or .i64 a0_2 (shl .i64 1 a2),a0_3)) else (none)) else (if 0≤a2 then (some (a0_0,a0_1,a0_2,Go.bits .or .i64 a0_3 (shl .i64 1 a2))) else (none))
theorem impl_Field_coloured.calls (a0_0:Int) (a0_1:Int) (a0_2:Int) (a0_3:Int) (a1:Int) (a2:Int) (r1:Int) (r2:Int) (r3:Int) (r4:Int) (w:World) (h:impl_Field_coloured.f a0_0 a0_1 a0_2 a0_3 a1 a2=some (r1,r2,r3,r4)):
 Calls Tryz.prog 31 #[.agg #[.int .i64 a0_0,.int .i64 a0_1,.int .i64 a0_2,.int .i64 a0_3],.int .i64 a1,.int .i64 a2] w fun e w'=>e=.returned (.agg #[.int .i64 r1,.int .i64 r2,.int .i64 r3,.int .i64 r4])∧Below w.heap.size w w':=by
 have hu25:=Tryz.underlying25
 have HB:=Aside0.mk (Below.refl w.heap.size w)
 have H:(if a1=0 then (if 0≤a2 then (some (a0_0,a0_1,Go.bits .or .i64 a0_2 (shl .i64 1 a2),a0_3)) else (none)) else (if 0≤a2 then (some (a0_0,a0_1,a0_2,Go.bits .or .i64 a0_3 (shl .i64 1 a2))) else (none)))=some (r1,r2,r3,r4):=h
 clear h
 by_cases c4:a1=0
 ·rw [if_pos c4] at H
  have c4b0:=zq1 c4
  have c4b1:=zq2 c4
  clear c4
  by_cases c5:0≤a2
  ·rw [if_pos c5] at H
   have c5b0:=eq_true c5
   have c5b1:=decide_eq_true c5
   clear c5
   obtain ⟨ji6,hji6⟩:=zj (shl .i64 1 a2)
   (first|rw [hji6] at H|simp only [hji6] at H)
   have hji6_:(IntKind.i64.wrap (1*2 ^ min a2.toNat 64))=ji6:=hji6
   have hji6z:a2≤64→(IntKind.i64.wrap (1*2 ^ a2.toNat))=ji6:=shl_small hji6
   have hji6u:(IntKind.i64.wrap (2 ^ min a2.toNat 64))=ji6:=by have h_:=hji6_;rw [Int.one_mul] at h_;exact h_
   have hji6v:a2≤64→(IntKind.i64.wrap (2 ^ a2.toNat))=ji6:=fun hle_=>by have h_:=hji6z hle_;rw [Int.one_mul] at h_;exact h_
   have hji6y:(wrap64 (1*2 ^ min a2.toNat 64))=ji6:=(i64_w _).symm.trans hji6_
   have hji6x:a2≤64→(wrap64 (1*2 ^ a2.toNat))=ji6:=fun h_=>(i64_w _).symm.trans (hji6z h_)
   simp only [Option.some.injEq,Prod.mk.injEq] at H
   obtain ⟨rfl,rfl,rfl,rfl⟩:=H
   go_enter Tryz.func31,Tryz.ntmps31
   try go_wp2_with (first|((with_reducible refine gate_dst (N:=3) rfl ?_);refine zX 3 #[.int .i64 a0_0,.int .i64 a0_1,.int .i64 a0_2,.int .i64 a0_3] 25 ?_;intro gb313 hg w7 hbox hb;refine zA4 (below_step (zH HB.1) hb) (hbox) (zs hg HB:w.heap.size≤gb313) (zs hg HB:w.heap.size≤gb313) ?_;clear HB;intro HB BK313 GW313 GE313;clear hb hbox hg)|((with_reducible refine gate_dst (N:=6) rfl ?_);refine zX 6 #[.int .i64 0,.int .i64 0,.int .i64 0,.int .i64 0] 25 ?_;intro gb314 hg w8 hbox hb;refine zA7 (zY BK313.1 hb) (below_step (zH1 HB.1 GE313.1) hb) (hbox) ((zS hg (below_size (zH1 HB.1 GE313.1)):w.heap.size≤gb314)) ((zS hg (below_size (zH1 HB.1 GE313.1)):w.heap.size≤gb314)) ((zl hg (blk_lt (g:=gb313) (o:=.cells #[.int .i64 a0_0,.int .i64 a0_1,.int .i64 a0_2,.int .i64 a0_3] 25 (0,0)) (zB BK313.1)):gb313≠gb314)) ((zg hg (blk_lt (g:=gb313) (o:=.cells #[.int .i64 a0_0,.int .i64 a0_1,.int .i64 a0_2,.int .i64 a0_3] 25 (0,0)) (zB BK313.1)):gb314≠gb313)) ?_;clear BK313 HB;intro BK313 HB BK314 GW314 GE314 NB313_314 NB314_313;clear hb hbox hg))
   refine zA3 (blk_drew BK313.1) (blk_drew BK314.1) (below_drew1 HB.1) ?_
   clear BK313 BK314 HB
   intro BK313 BK314 HB
   refine start_ (n:=7) (S:=fun w'=>w'.cell? ⟨gb313,0,none⟩=some (.int .i64 a0_0)∧w'.cell? ⟨gb313,1,none⟩=some (.int .i64 a0_1)∧w'.cell? ⟨gb313,2,none⟩=some (.int .i64 a0_2)∧w'.cell? ⟨gb313,3,none⟩=some (.int .i64 a0_3)) (ds:=[6]) #[false,false,false,false,false,false,false] (by kernel_rfl) rfl rfl ⟨zx BK313 0,zx BK313 1,zx BK313 2,zx BK313 3⟩ (fun hHeld=>?_)
   generalize w8.drew=w9 at BK313 BK314 HB hHeld ⊢
   refine zp 0 (some 9) rfl rfl ?_
   refine zp 2 (some 11) rfl rfl ?_
   refine zp 3 (some 12) rfl rfl ?_
   refine take_ (i:=1) (N:=some 10) (v:=?_) (a':=?_) #[true,true,true,true,false,false,false] rfl rfl (by kernel_rfl) (fun _ _ _ h=>h) (Or.inl ⟨by rfl,?_⟩) hHeld ?_ ?_
   rotate_left
   ·rintro w' ⟨s0,s1,s2,s3⟩
    go_simp
    with_reducible rfl
   rotate_left
   ·simp only [Act.put,List.setIfInBounds_toArray,List.set_cons_zero,List.set_cons_succ,i64_w,i32_w]
    rfl
   refine zp 4 (some 13) rfl rfl ?_
   refine zp 5 (some 14) rfl rfl ?_
   refine last_ (i:=6) (N:=none) #[true,true,true,true,true,true,true] rfl rfl (by kernel_rfl) (by decide) (fun K hK=>?_)
   have hs10:w9.cell? ⟨gb313,2,none⟩=some (.int .i64 a0_2):=zx BK313 2
   have hfs10:=blk_frozen BK313.1 2
   have hns10_1:=NB314_313.1
   have hms10_1:=NB313_314.1
   refine skip_ (w1:=?_) (by rfl) rfl ?_ ?_
   rotate_left
   ·go_simp
    rfl
   refine hK.out _ _ ?_
   clear hK K
   refine done_ (by kernel_rfl) ?_
   have hnb11:=NB313_314.1
   have hnc11:=NB314_313.1
   obtain ⟨Z12_0,Z12_1,Z12_2,Z12_3⟩:=zc4 BK313
   obtain ⟨V12_0,V12_1,V12_2,V12_3⟩:=zf4 BK313
   obtain ⟨Z13_0,Z13_1,Z13_2,Z13_3⟩:=zc4 BK314
   obtain ⟨V13_0,V13_1,V13_2,V13_3⟩:=zf4 BK314
   try go_wp2
   refine bodyPost_ret (results_cell_row rfl _ _ gb314 25 #[.int .i64 a0_0,.int .i64 a0_1,.int .i64 (Go.bits .or .i64 a0_2 (ji6)),.int .i64 a0_3] (0,0) _ rfl (zQ1 BK314.1 NB314_313.1) Tryz.underlying25 rfl (by kernel_rfl)) rfl ?_
   exact ⟨by first|rfl|(simp [errW_none,errW_some] <;> rfl)|(simp only [← hji6];first|rfl|(simp [errW_none,errW_some] <;> rfl))|(simp [*,errW_none,errW_some] <;> rfl),zH2 HB.1 GE313.1 GE314.1⟩
  ·rw [if_neg c5] at H
   exact absurd H (by simp)
 ·rw [if_neg c4] at H
  have c4b0:=zq3 c4
  have c4b1:=zq4 c4
  by_cases c14:0≤a2
  ·rw [if_pos c14] at H
   have c14b0:=eq_true c14
   have c14b1:=decide_eq_true c14
   clear c14
   obtain ⟨ji15,hji15⟩:=zj (shl .i64 1 a2)
   (first|rw [hji15] at H|simp only [hji15] at H)
   have hji15_:(IntKind.i64.wrap (1*2 ^ min a2.toNat 64))=ji15:=hji15
   have hji15z:a2≤64→(IntKind.i64.wrap (1*2 ^ a2.toNat))=ji15:=shl_small hji15
   have hji15u:(IntKind.i64.wrap (2 ^ min a2.toNat 64))=ji15:=by have h_:=hji15_;rw [Int.one_mul] at h_;exact h_
   have hji15v:a2≤64→(IntKind.i64.wrap (2 ^ a2.toNat))=ji15:=fun hle_=>by have h_:=hji15z hle_;rw [Int.one_mul] at h_;exact h_
   have hji15y:(wrap64 (1*2 ^ min a2.toNat 64))=ji15:=(i64_w _).symm.trans hji15_
   have hji15x:a2≤64→(wrap64 (1*2 ^ a2.toNat))=ji15:=fun h_=>(i64_w _).symm.trans (hji15z h_)
   simp only [Option.some.injEq,Prod.mk.injEq] at H
   obtain ⟨rfl,rfl,rfl,rfl⟩:=H
   go_enter Tryz.func31,Tryz.ntmps31
   try go_wp2_with (first|((with_reducible refine gate_dst (N:=3) rfl ?_);refine zX 3 #[.int .i64 a0_0,.int .i64 a0_1,.int .i64 a0_2,.int .i64 a0_3] 25 ?_;intro gb313 hg w16 hbox hb;refine zA4 (below_step (zH HB.1) hb) (hbox) (zs hg HB:w.heap.size≤gb313) (zs hg HB:w.heap.size≤gb313) ?_;clear HB;intro HB BK313 GW313 GE313;clear hb hbox hg)|((with_reducible refine gate_dst (N:=6) rfl ?_);refine zX 6 #[.int .i64 0,.int .i64 0,.int .i64 0,.int .i64 0] 25 ?_;intro gb314 hg w17 hbox hb;refine zA7 (zY BK313.1 hb) (below_step (zH1 HB.1 GE313.1) hb) (hbox) ((zS hg (below_size (zH1 HB.1 GE313.1)):w.heap.size≤gb314)) ((zS hg (below_size (zH1 HB.1 GE313.1)):w.heap.size≤gb314)) ((zl hg (blk_lt (g:=gb313) (o:=.cells #[.int .i64 a0_0,.int .i64 a0_1,.int .i64 a0_2,.int .i64 a0_3] 25 (0,0)) (zB BK313.1)):gb313≠gb314)) ((zg hg (blk_lt (g:=gb313) (o:=.cells #[.int .i64 a0_0,.int .i64 a0_1,.int .i64 a0_2,.int .i64 a0_3] 25 (0,0)) (zB BK313.1)):gb314≠gb313)) ?_;clear BK313 HB;intro BK313 HB BK314 GW314 GE314 NB313_314 NB314_313;clear hb hbox hg))
   refine zA3 (blk_drew BK313.1) (blk_drew BK314.1) (below_drew1 HB.1) ?_
   clear BK313 BK314 HB
   intro BK313 BK314 HB
   refine start_ (n:=7) (S:=fun w'=>w'.cell? ⟨gb313,0,none⟩=some (.int .i64 a0_0)∧w'.cell? ⟨gb313,1,none⟩=some (.int .i64 a0_1)∧w'.cell? ⟨gb313,2,none⟩=some (.int .i64 a0_2)∧w'.cell? ⟨gb313,3,none⟩=some (.int .i64 a0_3)) (ds:=[6]) #[false,false,false,false,false,false,false] (by kernel_rfl) rfl rfl ⟨zx BK313 0,zx BK313 1,zx BK313 2,zx BK313 3⟩ (fun hHeld=>?_)
   generalize w17.drew=w18 at BK313 BK314 HB hHeld ⊢
   refine zp 0 (some 15) rfl rfl ?_
   refine zp 2 (some 17) rfl rfl ?_
   refine zp 3 (some 18) rfl rfl ?_
   refine take_ (i:=1) (N:=some 16) (v:=?_) (a':=?_) #[true,true,true,true,false,false,false] rfl rfl (by kernel_rfl) (fun _ _ _ h=>h) (Or.inl ⟨by rfl,?_⟩) hHeld ?_ ?_
   rotate_left
   ·rintro w' ⟨s0,s1,s2,s3⟩
    go_simp
    with_reducible rfl
   rotate_left
   ·simp only [Act.put,List.setIfInBounds_toArray,List.set_cons_zero,List.set_cons_succ,i64_w,i32_w]
    rfl
   refine zp 4 (some 19) rfl rfl ?_
   refine zp 5 (some 20) rfl rfl ?_
   refine last_ (i:=6) (N:=none) #[true,true,true,true,true,true,true] rfl rfl (by kernel_rfl) (by decide) (fun K hK=>?_)
   have hs19:w18.cell? ⟨gb313,3,none⟩=some (.int .i64 a0_3):=zx BK313 3
   have hfs19:=blk_frozen BK313.1 3
   have hns19_1:=NB314_313.1
   have hms19_1:=NB313_314.1
   refine skip_ (w1:=?_) (by rfl) rfl ?_ ?_
   rotate_left
   ·go_simp
    rfl
   refine hK.out _ _ ?_
   clear hK K
   refine done_ (by kernel_rfl) ?_
   have hnb20:=NB313_314.1
   have hnc20:=NB314_313.1
   obtain ⟨Z21_0,Z21_1,Z21_2,Z21_3⟩:=zc4 BK313
   obtain ⟨V21_0,V21_1,V21_2,V21_3⟩:=zf4 BK313
   obtain ⟨Z22_0,Z22_1,Z22_2,Z22_3⟩:=zc4 BK314
   obtain ⟨V22_0,V22_1,V22_2,V22_3⟩:=zf4 BK314
   try go_wp2
   refine bodyPost_ret (results_cell_row rfl _ _ gb314 25 #[.int .i64 a0_0,.int .i64 a0_1,.int .i64 a0_2,.int .i64 (Go.bits .or .i64 a0_3 (ji15))] (0,0) _ rfl (zQ1 BK314.1 NB314_313.1) Tryz.underlying25 rfl (by kernel_rfl)) rfl ?_
   exact ⟨by first|rfl|(simp [errW_none,errW_some] <;> rfl)|(simp only [← hji15];first|rfl|(simp [errW_none,errW_some] <;> rfl))|(simp [*,errW_none,errW_some] <;> rfl),zH2 HB.1 GE313.1 GE314.1⟩
  ·rw [if_neg c14] at H
   exact absurd H (by simp)
def spec_l01In.f (a0:Int) (a1:Int) (a2:Int):Option (Bool):=if a0≥a1 then (some (decide (a0≤a2))) else (some false)
theorem spec_l01In.calls (a0:Int) (a1:Int) (a2:Int) (r:Bool) (w:World) (h:spec_l01In.f a0 a1 a2=some r):
 Calls Tryz.prog 74 #[.int .i64 a0,.int .i64 a1,.int .i64 a2] w fun e w'=>e=.returned (.bool r)∧Drawn0 w w':=by
 have H:(if a0≥a1 then (some (decide (a0≤a2))) else (some false))=some r:=h
 clear h
 by_cases c4:a0≥a1
 ·rw [if_pos c4] at H
  have c4b0:=decide_eq_true c4
  clear c4
  obtain rfl:=Option.some.inj H
  go_enter Tryz.func74,Tryz.ntmps74
  go_wp2
  go_ret
  exact ⟨zF,zD⟩
 ·rw [if_neg c4] at H
  have c4b0:=decide_eq_false c4
  clear c4
  obtain rfl:=Option.some.inj H
  go_enter Tryz.func74,Tryz.ntmps74
  go_wp2
  go_ret
  exact ⟨zF,zD⟩
def spec_l05Is.f (a0_0:Int) (a0_1:Int) (a0_2:Int) (a0_3:Int):Option (Bool):=(spec_l01In.f a0_0 1 8).bind fun t317=>(if t317=true then (if 0≤(IntKind.u64.wrap (wrap64 (Int.tdiv (wrap64 (a0_0*(wrap64 (a0_0-1)))) 2))) then (if 0≤(IntKind.u64.wrap (a0_0)) then ((spec_l01In.f a0_1 0 (wrap64 ((shl .i64 1 (IntKind.u64.wrap (wrap64 (Int.tdiv (wrap64 (a0_0*(wrap64 (a0_0-1)))) 2))))-1))).bind fun t318=>(if t318=true then ((spec_l01In.f a0_2 0 (wrap64 ((shl .i64 1 (IntKind.u64.wrap (a0_0)))-1))).bind fun t319=>(if t319=true then ((spec_l01In.f a0_3 0 (wrap64 ((shl .i64 1 (IntKind.u64.wrap (a0_0)))-1))).bind fun t320=>(if t320=true then (some ((Go.bits .and .i64 a0_2 a0_3)==0)) else (some false))) else (some false))) else (some false))) else (none)) else (none)) else (some false))
theorem spec_l05Is.calls (a0_0:Int) (a0_1:Int) (a0_2:Int) (a0_3:Int) (r:Bool) (w:World) (h:spec_l05Is.f a0_0 a0_1 a0_2 a0_3=some r):
 Calls Tryz.prog 47 #[.agg #[.int .i64 a0_0,.int .i64 a0_1,.int .i64 a0_2,.int .i64 a0_3]] w fun e w'=>e=.returned (.bool r)∧Below w.heap.size w w':=by
 have hu25:=Tryz.underlying25
 have HB:=Aside0.mk (Below.refl w.heap.size w)
 have H:((spec_l01In.f a0_0 1 8).bind fun t317=>(if t317=true then (if 0≤(IntKind.u64.wrap (wrap64 (Int.tdiv (wrap64 (a0_0*(wrap64 (a0_0-1)))) 2))) then (if 0≤(IntKind.u64.wrap (a0_0)) then ((spec_l01In.f a0_1 0 (wrap64 ((shl .i64 1 (IntKind.u64.wrap (wrap64 (Int.tdiv (wrap64 (a0_0*(wrap64 (a0_0-1)))) 2))))-1))).bind fun t318=>(if t318=true then ((spec_l01In.f a0_2 0 (wrap64 ((shl .i64 1 (IntKind.u64.wrap (a0_0)))-1))).bind fun t319=>(if t319=true then ((spec_l01In.f a0_3 0 (wrap64 ((shl .i64 1 (IntKind.u64.wrap (a0_0)))-1))).bind fun t320=>(if t320=true then (some ((Go.bits .and .i64 a0_2 a0_3)==0)) else (some false))) else (some false))) else (some false))) else (none)) else (none)) else (some false)))=some r:=h
 clear h
 obtain ⟨t317,A2,H⟩:=zb H
 by_cases c3:t317=true
 ·subst c3
  have H1:(if 0≤(IntKind.u64.wrap (wrap64 (Int.tdiv (wrap64 (a0_0*(wrap64 (a0_0-1)))) 2))) then (if 0≤(IntKind.u64.wrap (a0_0)) then ((spec_l01In.f a0_1 0 (wrap64 ((shl .i64 1 (IntKind.u64.wrap (wrap64 (Int.tdiv (wrap64 (a0_0*(wrap64 (a0_0-1)))) 2))))-1))).bind fun t318=>(if t318=true then ((spec_l01In.f a0_2 0 (wrap64 ((shl .i64 1 (IntKind.u64.wrap (a0_0)))-1))).bind fun t319=>(if t319=true then ((spec_l01In.f a0_3 0 (wrap64 ((shl .i64 1 (IntKind.u64.wrap (a0_0)))-1))).bind fun t320=>(if t320=true then (some ((Go.bits .and .i64 a0_2 a0_3)==0)) else (some false))) else (some false))) else (some false))) else (none)) else (none))=some r:=by rw [if_pos rfl] at H;exact H
  clear H
  have H:=H1
  clear H1
  obtain ⟨ji4,hji4⟩:=zj (IntKind.u64.wrap (wrap64 (Int.tdiv (wrap64 (a0_0*(wrap64 (a0_0-1)))) 2)))
  (first|rw [hji4] at H|simp only [hji4] at H)
  (try rw [hji4] at A2)
  by_cases c5:0≤(ji4)
  ·rw [if_pos c5] at H
   have c5b0:=eq_true c5
   have c5b1:=decide_eq_true c5
   clear c5
   obtain ⟨ji6,hji6⟩:=zj (shl .i64 1 (ji4))
   (first|rw [hji6] at H|simp only [hji6] at H)
   (try rw [hji6] at A2)
   have hji6_:(IntKind.i64.wrap (1*2 ^ min (ji4).toNat 64))=ji6:=hji6
   have hji6z:(ji4)≤64→(IntKind.i64.wrap (1*2 ^ (ji4).toNat))=ji6:=shl_small hji6
   have hji6u:(IntKind.i64.wrap (2 ^ min (ji4).toNat 64))=ji6:=by have h_:=hji6_;rw [Int.one_mul] at h_;exact h_
   have hji6v:(ji4)≤64→(IntKind.i64.wrap (2 ^ (ji4).toNat))=ji6:=fun hle_=>by have h_:=hji6z hle_;rw [Int.one_mul] at h_;exact h_
   have hji6y:(wrap64 (1*2 ^ min (ji4).toNat 64))=ji6:=(i64_w _).symm.trans hji6_
   have hji6x:(ji4)≤64→(wrap64 (1*2 ^ (ji4).toNat))=ji6:=fun h_=>(i64_w _).symm.trans (hji6z h_)
   obtain ⟨ji7,hji7⟩:=zj (IntKind.u64.wrap (a0_0))
   (first|rw [hji7] at H|simp only [hji7] at H)
   (try rw [hji7] at A2)
   by_cases c8:0≤(ji7)
   ·rw [if_pos c8] at H
    have c8b0:=eq_true c8
    have c8b1:=decide_eq_true c8
    clear c8
    obtain ⟨ji9,hji9⟩:=zj (shl .i64 1 (ji7))
    (first|rw [hji9] at H|simp only [hji9] at H)
    (try rw [hji9] at A2)
    have hji9_:(IntKind.i64.wrap (1*2 ^ min (ji7).toNat 64))=ji9:=hji9
    have hji9z:(ji7)≤64→(IntKind.i64.wrap (1*2 ^ (ji7).toNat))=ji9:=shl_small hji9
    have hji9u:(IntKind.i64.wrap (2 ^ min (ji7).toNat 64))=ji9:=by have h_:=hji9_;rw [Int.one_mul] at h_;exact h_
    have hji9v:(ji7)≤64→(IntKind.i64.wrap (2 ^ (ji7).toNat))=ji9:=fun hle_=>by have h_:=hji9z hle_;rw [Int.one_mul] at h_;exact h_
    have hji9y:(wrap64 (1*2 ^ min (ji7).toNat 64))=ji9:=(i64_w _).symm.trans hji9_
    have hji9x:(ji7)≤64→(wrap64 (1*2 ^ (ji7).toNat))=ji9:=fun h_=>(i64_w _).symm.trans (hji9z h_)
    obtain ⟨t318,A10,H⟩:=zb H
    by_cases c11:t318=true
    ·subst c11
     have H1:((spec_l01In.f a0_2 0 (wrap64 ((ji9)-1))).bind fun t319=>(if t319=true then ((spec_l01In.f a0_3 0 (wrap64 ((ji9)-1))).bind fun t320=>(if t320=true then (some ((Go.bits .and .i64 a0_2 a0_3)==0)) else (some false))) else (some false)))=some r:=by rw [if_pos rfl] at H;exact H
     clear H
     have H:=H1
     clear H1
     obtain ⟨t319,A12,H⟩:=zb H
     by_cases c13:t319=true
     ·subst c13
      have H1:((spec_l01In.f a0_3 0 (wrap64 ((ji9)-1))).bind fun t320=>(if t320=true then (some ((Go.bits .and .i64 a0_2 a0_3)==0)) else (some false)))=some r:=by rw [if_pos rfl] at H;exact H
      clear H
      have H:=H1
      clear H1
      obtain ⟨t320,A14,H⟩:=zb H
      by_cases c15:t320=true
      ·subst c15
       have H1:(some ((Go.bits .and .i64 a0_2 a0_3)==0))=some r:=by rw [if_pos rfl] at H;exact H
       clear H
       have H:=H1
       clear H1
       obtain rfl:=Option.some.inj H
       go_enter Tryz.func47,Tryz.ntmps47
       go_wp2_with (first|((with_reducible refine gate_dst (N:=1) rfl ?_);refine zX 1 #[.int .i64 a0_0,.int .i64 a0_1,.int .i64 a0_2,.int .i64 a0_3] 25 ?_;intro gb316 hg w16 hbox hb;refine zA4 (below_step (zH HB.1) hb) (hbox) (zs hg HB:w.heap.size≤gb316) (zs hg HB:w.heap.size≤gb316) ?_;clear HB;intro HB BK316 GW316 GE316;clear hb hbox hg;obtain ⟨Z17_0,Z17_1,Z17_2,Z17_3⟩:=zc4 BK316;obtain ⟨V17_0,V17_1,V17_2,V17_3⟩:=zf4 BK316)|(go_at_call 74;(with_reducible refine (spec_l01In.calls a0_0 1 8 true _ A2.1).mono ?_);rintro e w' ⟨rfl,⟨nd,rfl⟩⟩;(try exact zv))|(go_at_call 74;(with_reducible refine (spec_l01In.calls a0_1 0 (wrap64 ((ji6)-1)) true _ A10.1).mono ?_);rintro e w' ⟨rfl,⟨nd,rfl⟩⟩;(try exact zv))|(go_at_call 74;(with_reducible refine (spec_l01In.calls a0_2 0 (wrap64 ((ji9)-1)) true _ A12.1).mono ?_);rintro e w' ⟨rfl,⟨nd,rfl⟩⟩;(try exact zv))|(go_at_call 74;(with_reducible refine (spec_l01In.calls a0_3 0 (wrap64 ((ji9)-1)) true _ A14.1).mono ?_);rintro e w' ⟨rfl,⟨nd,rfl⟩⟩;(try exact zv)))
       repeat (go_quiet (first|((with_reducible refine gate_dst (N:=1) rfl ?_);refine zX 1 #[.int .i64 a0_0,.int .i64 a0_1,.int .i64 a0_2,.int .i64 a0_3] 25 ?_;intro gb316 hg w16 hbox hb;refine zA4 (below_step (zH HB.1) hb) (hbox) (zs hg HB:w.heap.size≤gb316) (zs hg HB:w.heap.size≤gb316) ?_;clear HB;intro HB BK316 GW316 GE316;clear hb hbox hg;obtain ⟨Z17_0,Z17_1,Z17_2,Z17_3⟩:=zc4 BK316;obtain ⟨V17_0,V17_1,V17_2,V17_3⟩:=zf4 BK316)|(go_at_call 74;(with_reducible refine (spec_l01In.calls a0_0 1 8 true _ A2.1).mono ?_);rintro e w' ⟨rfl,⟨nd,rfl⟩⟩;(try exact zv))|(go_at_call 74;(with_reducible refine (spec_l01In.calls a0_1 0 (wrap64 ((ji6)-1)) true _ A10.1).mono ?_);rintro e w' ⟨rfl,⟨nd,rfl⟩⟩;(try exact zv))|(go_at_call 74;(with_reducible refine (spec_l01In.calls a0_2 0 (wrap64 ((ji9)-1)) true _ A12.1).mono ?_);rintro e w' ⟨rfl,⟨nd,rfl⟩⟩;(try exact zv))|(go_at_call 74;(with_reducible refine (spec_l01In.calls a0_3 0 (wrap64 ((ji9)-1)) true _ A14.1).mono ?_);rintro e w' ⟨rfl,⟨nd,rfl⟩⟩;(try exact zv)));try go_wp2_with (first|((with_reducible refine gate_dst (N:=1) rfl ?_);refine zX 1 #[.int .i64 a0_0,.int .i64 a0_1,.int .i64 a0_2,.int .i64 a0_3] 25 ?_;intro gb316 hg w16 hbox hb;refine zA4 (below_step (zH HB.1) hb) (hbox) (zs hg HB:w.heap.size≤gb316) (zs hg HB:w.heap.size≤gb316) ?_;clear HB;intro HB BK316 GW316 GE316;clear hb hbox hg;obtain ⟨Z17_0,Z17_1,Z17_2,Z17_3⟩:=zc4 BK316;obtain ⟨V17_0,V17_1,V17_2,V17_3⟩:=zf4 BK316)|(go_at_call 74;(with_reducible refine (spec_l01In.calls a0_0 1 8 true _ A2.1).mono ?_);rintro e w' ⟨rfl,⟨nd,rfl⟩⟩;(try exact zv))|(go_at_call 74;(with_reducible refine (spec_l01In.calls a0_1 0 (wrap64 ((ji6)-1)) true _ A10.1).mono ?_);rintro e w' ⟨rfl,⟨nd,rfl⟩⟩;(try exact zv))|(go_at_call 74;(with_reducible refine (spec_l01In.calls a0_2 0 (wrap64 ((ji9)-1)) true _ A12.1).mono ?_);rintro e w' ⟨rfl,⟨nd,rfl⟩⟩;(try exact zv))|(go_at_call 74;(with_reducible refine (spec_l01In.calls a0_3 0 (wrap64 ((ji9)-1)) true _ A14.1).mono ?_);rintro e w' ⟨rfl,⟨nd,rfl⟩⟩;(try exact zv))))
       go_ret
       exact ⟨by first|rfl|(simp [errW_none,errW_some] <;> rfl)|(simp only [← hji4,← hji6,← hji7,← hji9];first|rfl|(simp [errW_none,errW_some] <;> rfl))|(simp [*,errW_none,errW_some] <;> rfl),zH1 HB.1 GE316.1⟩
      ·replace c15:=Bool.eq_false_iff.mpr c15
       subst c15
       have H1:(some false)=some r:=by rw [if_neg (show ¬ (false=true) by decide)] at H;exact H
       clear H
       have H:=H1
       clear H1
       obtain rfl:=Option.some.inj H
       go_enter Tryz.func47,Tryz.ntmps47
       go_wp2_with (first|((with_reducible refine gate_dst (N:=1) rfl ?_);refine zX 1 #[.int .i64 a0_0,.int .i64 a0_1,.int .i64 a0_2,.int .i64 a0_3] 25 ?_;intro gb316 hg w18 hbox hb;refine zA4 (below_step (zH HB.1) hb) (hbox) (zs hg HB:w.heap.size≤gb316) (zs hg HB:w.heap.size≤gb316) ?_;clear HB;intro HB BK316 GW316 GE316;clear hb hbox hg;obtain ⟨Z19_0,Z19_1,Z19_2,Z19_3⟩:=zc4 BK316;obtain ⟨V19_0,V19_1,V19_2,V19_3⟩:=zf4 BK316)|(go_at_call 74;(with_reducible refine (spec_l01In.calls a0_0 1 8 true _ A2.1).mono ?_);rintro e w' ⟨rfl,⟨nd,rfl⟩⟩;(try exact zv))|(go_at_call 74;(with_reducible refine (spec_l01In.calls a0_1 0 (wrap64 ((ji6)-1)) true _ A10.1).mono ?_);rintro e w' ⟨rfl,⟨nd,rfl⟩⟩;(try exact zv))|(go_at_call 74;(with_reducible refine (spec_l01In.calls a0_2 0 (wrap64 ((ji9)-1)) true _ A12.1).mono ?_);rintro e w' ⟨rfl,⟨nd,rfl⟩⟩;(try exact zv))|(go_at_call 74;(with_reducible refine (spec_l01In.calls a0_3 0 (wrap64 ((ji9)-1)) false _ A14.1).mono ?_);rintro e w' ⟨rfl,⟨nd,rfl⟩⟩;(try exact zv)))
       repeat (go_quiet (first|((with_reducible refine gate_dst (N:=1) rfl ?_);refine zX 1 #[.int .i64 a0_0,.int .i64 a0_1,.int .i64 a0_2,.int .i64 a0_3] 25 ?_;intro gb316 hg w18 hbox hb;refine zA4 (below_step (zH HB.1) hb) (hbox) (zs hg HB:w.heap.size≤gb316) (zs hg HB:w.heap.size≤gb316) ?_;clear HB;intro HB BK316 GW316 GE316;clear hb hbox hg;obtain ⟨Z19_0,Z19_1,Z19_2,Z19_3⟩:=zc4 BK316;obtain ⟨V19_0,V19_1,V19_2,V19_3⟩:=zf4 BK316)|(go_at_call 74;(with_reducible refine (spec_l01In.calls a0_0 1 8 true _ A2.1).mono ?_);rintro e w' ⟨rfl,⟨nd,rfl⟩⟩;(try exact zv))|(go_at_call 74;(with_reducible refine (spec_l01In.calls a0_1 0 (wrap64 ((ji6)-1)) true _ A10.1).mono ?_);rintro e w' ⟨rfl,⟨nd,rfl⟩⟩;(try exact zv))|(go_at_call 74;(with_reducible refine (spec_l01In.calls a0_2 0 (wrap64 ((ji9)-1)) true _ A12.1).mono ?_);rintro e w' ⟨rfl,⟨nd,rfl⟩⟩;(try exact zv))|(go_at_call 74;(with_reducible refine (spec_l01In.calls a0_3 0 (wrap64 ((ji9)-1)) false _ A14.1).mono ?_);rintro e w' ⟨rfl,⟨nd,rfl⟩⟩;(try exact zv)));try go_wp2_with (first|((with_reducible refine gate_dst (N:=1) rfl ?_);refine zX 1 #[.int .i64 a0_0,.int .i64 a0_1,.int .i64 a0_2,.int .i64 a0_3] 25 ?_;intro gb316 hg w18 hbox hb;refine zA4 (below_step (zH HB.1) hb) (hbox) (zs hg HB:w.heap.size≤gb316) (zs hg HB:w.heap.size≤gb316) ?_;clear HB;intro HB BK316 GW316 GE316;clear hb hbox hg;obtain ⟨Z19_0,Z19_1,Z19_2,Z19_3⟩:=zc4 BK316;obtain ⟨V19_0,V19_1,V19_2,V19_3⟩:=zf4 BK316)|(go_at_call 74;(with_reducible refine (spec_l01In.calls a0_0 1 8 true _ A2.1).mono ?_);rintro e w' ⟨rfl,⟨nd,rfl⟩⟩;(try exact zv))|(go_at_call 74;(with_reducible refine (spec_l01In.calls a0_1 0 (wrap64 ((ji6)-1)) true _ A10.1).mono ?_);rintro e w' ⟨rfl,⟨nd,rfl⟩⟩;(try exact zv))|(go_at_call 74;(with_reducible refine (spec_l01In.calls a0_2 0 (wrap64 ((ji9)-1)) true _ A12.1).mono ?_);rintro e w' ⟨rfl,⟨nd,rfl⟩⟩;(try exact zv))|(go_at_call 74;(with_reducible refine (spec_l01In.calls a0_3 0 (wrap64 ((ji9)-1)) false _ A14.1).mono ?_);rintro e w' ⟨rfl,⟨nd,rfl⟩⟩;(try exact zv))))
       go_ret
       exact ⟨by first|rfl|(simp [errW_none,errW_some] <;> rfl)|(simp only [← hji4,← hji6,← hji7,← hji9];first|rfl|(simp [errW_none,errW_some] <;> rfl))|(simp [*,errW_none,errW_some] <;> rfl),zH1 HB.1 GE316.1⟩
     ·replace c13:=Bool.eq_false_iff.mpr c13
      subst c13
      have H1:(some false)=some r:=by rw [if_neg (show ¬ (false=true) by decide)] at H;exact H
      clear H
      have H:=H1
      clear H1
      obtain rfl:=Option.some.inj H
      go_enter Tryz.func47,Tryz.ntmps47
      go_wp2_with (first|((with_reducible refine gate_dst (N:=1) rfl ?_);refine zX 1 #[.int .i64 a0_0,.int .i64 a0_1,.int .i64 a0_2,.int .i64 a0_3] 25 ?_;intro gb316 hg w20 hbox hb;refine zA4 (below_step (zH HB.1) hb) (hbox) (zs hg HB:w.heap.size≤gb316) (zs hg HB:w.heap.size≤gb316) ?_;clear HB;intro HB BK316 GW316 GE316;clear hb hbox hg;obtain ⟨Z21_0,Z21_1,Z21_2,Z21_3⟩:=zc4 BK316;obtain ⟨V21_0,V21_1,V21_2,V21_3⟩:=zf4 BK316)|(go_at_call 74;(with_reducible refine (spec_l01In.calls a0_0 1 8 true _ A2.1).mono ?_);rintro e w' ⟨rfl,⟨nd,rfl⟩⟩;(try exact zv))|(go_at_call 74;(with_reducible refine (spec_l01In.calls a0_1 0 (wrap64 ((ji6)-1)) true _ A10.1).mono ?_);rintro e w' ⟨rfl,⟨nd,rfl⟩⟩;(try exact zv))|(go_at_call 74;(with_reducible refine (spec_l01In.calls a0_2 0 (wrap64 ((ji9)-1)) false _ A12.1).mono ?_);rintro e w' ⟨rfl,⟨nd,rfl⟩⟩;(try exact zv)))
      repeat (go_quiet (first|((with_reducible refine gate_dst (N:=1) rfl ?_);refine zX 1 #[.int .i64 a0_0,.int .i64 a0_1,.int .i64 a0_2,.int .i64 a0_3] 25 ?_;intro gb316 hg w20 hbox hb;refine zA4 (below_step (zH HB.1) hb) (hbox) (zs hg HB:w.heap.size≤gb316) (zs hg HB:w.heap.size≤gb316) ?_;clear HB;intro HB BK316 GW316 GE316;clear hb hbox hg;obtain ⟨Z21_0,Z21_1,Z21_2,Z21_3⟩:=zc4 BK316;obtain ⟨V21_0,V21_1,V21_2,V21_3⟩:=zf4 BK316)|(go_at_call 74;(with_reducible refine (spec_l01In.calls a0_0 1 8 true _ A2.1).mono ?_);rintro e w' ⟨rfl,⟨nd,rfl⟩⟩;(try exact zv))|(go_at_call 74;(with_reducible refine (spec_l01In.calls a0_1 0 (wrap64 ((ji6)-1)) true _ A10.1).mono ?_);rintro e w' ⟨rfl,⟨nd,rfl⟩⟩;(try exact zv))|(go_at_call 74;(with_reducible refine (spec_l01In.calls a0_2 0 (wrap64 ((ji9)-1)) false _ A12.1).mono ?_);rintro e w' ⟨rfl,⟨nd,rfl⟩⟩;(try exact zv)));try go_wp2_with (first|((with_reducible refine gate_dst (N:=1) rfl ?_);refine zX 1 #[.int .i64 a0_0,.int .i64 a0_1,.int .i64 a0_2,.int .i64 a0_3] 25 ?_;intro gb316 hg w20 hbox hb;refine zA4 (below_step (zH HB.1) hb) (hbox) (zs hg HB:w.heap.size≤gb316) (zs hg HB:w.heap.size≤gb316) ?_;clear HB;intro HB BK316 GW316 GE316;clear hb hbox hg;obtain ⟨Z21_0,Z21_1,Z21_2,Z21_3⟩:=zc4 BK316;obtain ⟨V21_0,V21_1,V21_2,V21_3⟩:=zf4 BK316)|(go_at_call 74;(with_reducible refine (spec_l01In.calls a0_0 1 8 true _ A2.1).mono ?_);rintro e w' ⟨rfl,⟨nd,rfl⟩⟩;(try exact zv))|(go_at_call 74;(with_reducible refine (spec_l01In.calls a0_1 0 (wrap64 ((ji6)-1)) true _ A10.1).mono ?_);rintro e w' ⟨rfl,⟨nd,rfl⟩⟩;(try exact zv))|(go_at_call 74;(with_reducible refine (spec_l01In.calls a0_2 0 (wrap64 ((ji9)-1)) false _ A12.1).mono ?_);rintro e w' ⟨rfl,⟨nd,rfl⟩⟩;(try exact zv))))
      go_ret
      exact ⟨by first|rfl|(simp [errW_none,errW_some] <;> rfl)|(simp only [← hji4,← hji6,← hji7,← hji9];first|rfl|(simp [errW_none,errW_some] <;> rfl))|(simp [*,errW_none,errW_some] <;> rfl),zH1 HB.1 GE316.1⟩
    ·replace c11:=Bool.eq_false_iff.mpr c11
     subst c11
     have H1:(some false)=some r:=by rw [if_neg (show ¬ (false=true) by decide)] at H;exact H
     clear H
     have H:=H1
     clear H1
     obtain rfl:=Option.some.inj H
     go_enter Tryz.func47,Tryz.ntmps47
     go_wp2_with (first|((with_reducible refine gate_dst (N:=1) rfl ?_);refine zX 1 #[.int .i64 a0_0,.int .i64 a0_1,.int .i64 a0_2,.int .i64 a0_3] 25 ?_;intro gb316 hg w22 hbox hb;refine zA4 (below_step (zH HB.1) hb) (hbox) (zs hg HB:w.heap.size≤gb316) (zs hg HB:w.heap.size≤gb316) ?_;clear HB;intro HB BK316 GW316 GE316;clear hb hbox hg;obtain ⟨Z23_0,Z23_1,Z23_2,Z23_3⟩:=zc4 BK316;obtain ⟨V23_0,V23_1,V23_2,V23_3⟩:=zf4 BK316)|(go_at_call 74;(with_reducible refine (spec_l01In.calls a0_0 1 8 true _ A2.1).mono ?_);rintro e w' ⟨rfl,⟨nd,rfl⟩⟩;(try exact zv))|(go_at_call 74;(with_reducible refine (spec_l01In.calls a0_1 0 (wrap64 ((ji6)-1)) false _ A10.1).mono ?_);rintro e w' ⟨rfl,⟨nd,rfl⟩⟩;(try exact zv)))
     repeat (go_quiet (first|((with_reducible refine gate_dst (N:=1) rfl ?_);refine zX 1 #[.int .i64 a0_0,.int .i64 a0_1,.int .i64 a0_2,.int .i64 a0_3] 25 ?_;intro gb316 hg w22 hbox hb;refine zA4 (below_step (zH HB.1) hb) (hbox) (zs hg HB:w.heap.size≤gb316) (zs hg HB:w.heap.size≤gb316) ?_;clear HB;intro HB BK316 GW316 GE316;clear hb hbox hg;obtain ⟨Z23_0,Z23_1,Z23_2,Z23_3⟩:=zc4 BK316;obtain ⟨V23_0,V23_1,V23_2,V23_3⟩:=zf4 BK316)|(go_at_call 74;(with_reducible refine (spec_l01In.calls a0_0 1 8 true _ A2.1).mono ?_);rintro e w' ⟨rfl,⟨nd,rfl⟩⟩;(try exact zv))|(go_at_call 74;(with_reducible refine (spec_l01In.calls a0_1 0 (wrap64 ((ji6)-1)) false _ A10.1).mono ?_);rintro e w' ⟨rfl,⟨nd,rfl⟩⟩;(try exact zv)));try go_wp2_with (first|((with_reducible refine gate_dst (N:=1) rfl ?_);refine zX 1 #[.int .i64 a0_0,.int .i64 a0_1,.int .i64 a0_2,.int .i64 a0_3] 25 ?_;intro gb316 hg w22 hbox hb;refine zA4 (below_step (zH HB.1) hb) (hbox) (zs hg HB:w.heap.size≤gb316) (zs hg HB:w.heap.size≤gb316) ?_;clear HB;intro HB BK316 GW316 GE316;clear hb hbox hg;obtain ⟨Z23_0,Z23_1,Z23_2,Z23_3⟩:=zc4 BK316;obtain ⟨V23_0,V23_1,V23_2,V23_3⟩:=zf4 BK316)|(go_at_call 74;(with_reducible refine (spec_l01In.calls a0_0 1 8 true _ A2.1).mono ?_);rintro e w' ⟨rfl,⟨nd,rfl⟩⟩;(try exact zv))|(go_at_call 74;(with_reducible refine (spec_l01In.calls a0_1 0 (wrap64 ((ji6)-1)) false _ A10.1).mono ?_);rintro e w' ⟨rfl,⟨nd,rfl⟩⟩;(try exact zv))))
     go_ret
     exact ⟨by first|rfl|(simp [errW_none,errW_some] <;> rfl)|(simp only [← hji4,← hji6,← hji7,← hji9];first|rfl|(simp [errW_none,errW_some] <;> rfl))|(simp [*,errW_none,errW_some] <;> rfl),zH1 HB.1 GE316.1⟩
   ·rw [if_neg c8] at H
    exact absurd H (by simp)
  ·rw [if_neg c5] at H
   exact absurd H (by simp)
 ·replace c3:=Bool.eq_false_iff.mpr c3
  subst c3
  have H1:(some false)=some r:=by rw [if_neg (show ¬ (false=true) by decide)] at H;exact H
  clear H
  have H:=H1
  clear H1
  obtain rfl:=Option.some.inj H
  go_enter Tryz.func47,Tryz.ntmps47
  go_wp2_with (first|((with_reducible refine gate_dst (N:=1) rfl ?_);refine zX 1 #[.int .i64 a0_0,.int .i64 a0_1,.int .i64 a0_2,.int .i64 a0_3] 25 ?_;intro gb316 hg w24 hbox hb;refine zA4 (below_step (zH HB.1) hb) (hbox) (zs hg HB:w.heap.size≤gb316) (zs hg HB:w.heap.size≤gb316) ?_;clear HB;intro HB BK316 GW316 GE316;clear hb hbox hg;obtain ⟨Z25_0,Z25_1,Z25_2,Z25_3⟩:=zc4 BK316;obtain ⟨V25_0,V25_1,V25_2,V25_3⟩:=zf4 BK316)|(go_at_call 74;(with_reducible refine (spec_l01In.calls a0_0 1 8 false _ A2.1).mono ?_);rintro e w' ⟨rfl,⟨nd,rfl⟩⟩;(try exact zv)))
  repeat (go_quiet (first|((with_reducible refine gate_dst (N:=1) rfl ?_);refine zX 1 #[.int .i64 a0_0,.int .i64 a0_1,.int .i64 a0_2,.int .i64 a0_3] 25 ?_;intro gb316 hg w24 hbox hb;refine zA4 (below_step (zH HB.1) hb) (hbox) (zs hg HB:w.heap.size≤gb316) (zs hg HB:w.heap.size≤gb316) ?_;clear HB;intro HB BK316 GW316 GE316;clear hb hbox hg;obtain ⟨Z25_0,Z25_1,Z25_2,Z25_3⟩:=zc4 BK316;obtain ⟨V25_0,V25_1,V25_2,V25_3⟩:=zf4 BK316)|(go_at_call 74;(with_reducible refine (spec_l01In.calls a0_0 1 8 false _ A2.1).mono ?_);rintro e w' ⟨rfl,⟨nd,rfl⟩⟩;(try exact zv)));try go_wp2_with (first|((with_reducible refine gate_dst (N:=1) rfl ?_);refine zX 1 #[.int .i64 a0_0,.int .i64 a0_1,.int .i64 a0_2,.int .i64 a0_3] 25 ?_;intro gb316 hg w24 hbox hb;refine zA4 (below_step (zH HB.1) hb) (hbox) (zs hg HB:w.heap.size≤gb316) (zs hg HB:w.heap.size≤gb316) ?_;clear HB;intro HB BK316 GW316 GE316;clear hb hbox hg;obtain ⟨Z25_0,Z25_1,Z25_2,Z25_3⟩:=zc4 BK316;obtain ⟨V25_0,V25_1,V25_2,V25_3⟩:=zf4 BK316)|(go_at_call 74;(with_reducible refine (spec_l01In.calls a0_0 1 8 false _ A2.1).mono ?_);rintro e w' ⟨rfl,⟨nd,rfl⟩⟩;(try exact zv))))
  go_ret
  exact ⟨zE,zH1 HB.1 GE316.1⟩
def spec_l05Code.f (k:Nat) (a0_0:Int) (a0_1:Int) (a0_2:Int) (a0_3:Int) (a1:Int):Option (Int):=(spec_l05Is.f a0_0 a0_1 a0_2 a0_3).bind fun t322=>(if t322=true then ((spec_l01In.f a1 0 1).bind fun t323=>(if t323=true then ((spec_l05Fair.f k a0_0 a0_1 a0_2 a0_3 a1).bind fun t324=>(if t324=true then (some 0) else (some 5))) else (some 2))) else (some 1))
theorem spec_l05Code.calls (k:Nat) (a0_0:Int) (a0_1:Int) (a0_2:Int) (a0_3:Int) (a1:Int) (r:Int) (w:World) (h:spec_l05Code.f k a0_0 a0_1 a0_2 a0_3 a1=some r):
 Calls Tryz.prog 58 #[.agg #[.int .i64 a0_0,.int .i64 a0_1,.int .i64 a0_2,.int .i64 a0_3],.int .i64 a1] w fun e w'=>e=.returned (.int .i64 r)∧Below w.heap.size w w':=by
 have hu25:=Tryz.underlying25
 have HB:=Aside0.mk (Below.refl w.heap.size w)
 have H:((spec_l05Is.f a0_0 a0_1 a0_2 a0_3).bind fun t322=>(if t322=true then ((spec_l01In.f a1 0 1).bind fun t323=>(if t323=true then ((spec_l05Fair.f k a0_0 a0_1 a0_2 a0_3 a1).bind fun t324=>(if t324=true then (some 0) else (some 5))) else (some 2))) else (some 1)))=some r:=h
 clear h
 obtain ⟨t322,A3,H⟩:=zb H
 by_cases c4:t322=true
 ·subst c4
  have H1:((spec_l01In.f a1 0 1).bind fun t323=>(if t323=true then ((spec_l05Fair.f k a0_0 a0_1 a0_2 a0_3 a1).bind fun t324=>(if t324=true then (some 0) else (some 5))) else (some 2)))=some r:=by rw [if_pos rfl] at H;exact H
  clear H
  have H:=H1
  clear H1
  obtain ⟨t323,A5,H⟩:=zb H
  by_cases c6:t323=true
  ·subst c6
   have H1:((spec_l05Fair.f k a0_0 a0_1 a0_2 a0_3 a1).bind fun t324=>(if t324=true then (some 0) else (some 5)))=some r:=by rw [if_pos rfl] at H;exact H
   clear H
   have H:=H1
   clear H1
   obtain ⟨t324,A7,H⟩:=zb H
   by_cases c8:t324=true
   ·subst c8
    have H1:(some 0)=some r:=by rw [if_pos rfl] at H;exact H
    clear H
    have H:=H1
    clear H1
    obtain rfl:=Option.some.inj H
    go_enter Tryz.func58,Tryz.ntmps58
    go_wp2_with (first|((with_reducible refine gate_dst (N:=2) rfl ?_);refine zX 2 #[.int .i64 a0_0,.int .i64 a0_1,.int .i64 a0_2,.int .i64 a0_3] 25 ?_;intro gb321 hg w9 hbox hb;refine zA4 (below_step (zH HB.1) hb) (hbox) (zs hg HB:w.heap.size≤gb321) (zs hg HB:w.heap.size≤gb321) ?_;clear HB;intro HB BK321 GW321 GE321;clear hb hbox hg;obtain ⟨Z10_0,Z10_1,Z10_2,Z10_3⟩:=zc4 BK321;obtain ⟨V10_0,V10_1,V10_2,V10_3⟩:=zf4 BK321)|((with_reducible refine gate_callee (f:=47) rfl ?_);refine zL (some 7) Tryz.func47 #[.agg #[.int .i64 a0_0,.int .i64 a0_1,.int .i64 a0_2,.int .i64 a0_3]] ?_;(with_reducible refine (spec_l05Is.calls a0_0 a0_1 a0_2 a0_3 true _ A3.1).mono ?_);rintro e w11 ⟨rfl,hb⟩;refine ⟨_,rfl,?_⟩;refine zA2 (zY BK321.1 hb) (below_step (zH1 HB.1 GE321.1) hb) ?_;clear BK321 HB;intro BK321 HB;(try clear hb))|((with_reducible refine gate_callee (f:=74) rfl ?_);refine zL (some 11) Tryz.func74 #[.int .i64 a1,.int .i64 0,.int .i64 1] ?_;(with_reducible refine (spec_l01In.calls a1 0 1 true _ A5.1).mono ?_);rintro e w' ⟨rfl,⟨nd,rfl⟩⟩;refine ⟨_,rfl,?_⟩;obtain ⟨Z12_0,Z12_1,Z12_2,Z12_3⟩:=zc4 BK321;obtain ⟨V12_0,V12_1,V12_2,V12_3⟩:=zf4 BK321)|((with_reducible refine gate_callee (f:=76) rfl ?_);refine zL (some 16) Tryz.func76 #[.agg #[.int .i64 a0_0,.int .i64 a0_1,.int .i64 a0_2,.int .i64 a0_3],.int .i64 a1] ?_;(with_reducible refine (spec_l05Fair.calls k a0_0 a0_1 a0_2 a0_3 a1 true _ A7.1).mono ?_);rintro e w13 ⟨rfl,hb⟩;refine ⟨_,rfl,?_⟩;refine zA2 (zY BK321.1 hb) (below_step (zH1 HB.1 GE321.1) hb) ?_;clear BK321 HB;intro BK321 HB;(try clear hb)))
    go_ret
    exact ⟨zE,zH1 HB.1 GE321.1⟩
   ·replace c8:=Bool.eq_false_iff.mpr c8
    subst c8
    have H1:(some 5)=some r:=by rw [if_neg (show ¬ (false=true) by decide)] at H;exact H
    clear H
    have H:=H1
    clear H1
    obtain rfl:=Option.some.inj H
    go_enter Tryz.func58,Tryz.ntmps58
    go_wp2_with (first|((with_reducible refine gate_dst (N:=2) rfl ?_);refine zX 2 #[.int .i64 a0_0,.int .i64 a0_1,.int .i64 a0_2,.int .i64 a0_3] 25 ?_;intro gb321 hg w14 hbox hb;refine zA4 (below_step (zH HB.1) hb) (hbox) (zs hg HB:w.heap.size≤gb321) (zs hg HB:w.heap.size≤gb321) ?_;clear HB;intro HB BK321 GW321 GE321;clear hb hbox hg;obtain ⟨Z15_0,Z15_1,Z15_2,Z15_3⟩:=zc4 BK321;obtain ⟨V15_0,V15_1,V15_2,V15_3⟩:=zf4 BK321)|((with_reducible refine gate_callee (f:=47) rfl ?_);refine zL (some 7) Tryz.func47 #[.agg #[.int .i64 a0_0,.int .i64 a0_1,.int .i64 a0_2,.int .i64 a0_3]] ?_;(with_reducible refine (spec_l05Is.calls a0_0 a0_1 a0_2 a0_3 true _ A3.1).mono ?_);rintro e w16 ⟨rfl,hb⟩;refine ⟨_,rfl,?_⟩;refine zA2 (zY BK321.1 hb) (below_step (zH1 HB.1 GE321.1) hb) ?_;clear BK321 HB;intro BK321 HB;(try clear hb))|((with_reducible refine gate_callee (f:=74) rfl ?_);refine zL (some 11) Tryz.func74 #[.int .i64 a1,.int .i64 0,.int .i64 1] ?_;(with_reducible refine (spec_l01In.calls a1 0 1 true _ A5.1).mono ?_);rintro e w' ⟨rfl,⟨nd,rfl⟩⟩;refine ⟨_,rfl,?_⟩;obtain ⟨Z17_0,Z17_1,Z17_2,Z17_3⟩:=zc4 BK321;obtain ⟨V17_0,V17_1,V17_2,V17_3⟩:=zf4 BK321)|((with_reducible refine gate_callee (f:=76) rfl ?_);refine zL (some 16) Tryz.func76 #[.agg #[.int .i64 a0_0,.int .i64 a0_1,.int .i64 a0_2,.int .i64 a0_3],.int .i64 a1] ?_;(with_reducible refine (spec_l05Fair.calls k a0_0 a0_1 a0_2 a0_3 a1 false _ A7.1).mono ?_);rintro e w18 ⟨rfl,hb⟩;refine ⟨_,rfl,?_⟩;refine zA2 (zY BK321.1 hb) (below_step (zH1 HB.1 GE321.1) hb) ?_;clear BK321 HB;intro BK321 HB;(try clear hb)))
    go_ret
    exact ⟨zE,zH1 HB.1 GE321.1⟩
  ·replace c6:=Bool.eq_false_iff.mpr c6
   subst c6
   have H1:(some 2)=some r:=by rw [if_neg (show ¬ (false=true) by decide)] at H;exact H
   clear H
   have H:=H1
   clear H1
   obtain rfl:=Option.some.inj H
   go_enter Tryz.func58,Tryz.ntmps58
   go_wp2_with (first|((with_reducible refine gate_dst (N:=2) rfl ?_);refine zX 2 #[.int .i64 a0_0,.int .i64 a0_1,.int .i64 a0_2,.int .i64 a0_3] 25 ?_;intro gb321 hg w19 hbox hb;refine zA4 (below_step (zH HB.1) hb) (hbox) (zs hg HB:w.heap.size≤gb321) (zs hg HB:w.heap.size≤gb321) ?_;clear HB;intro HB BK321 GW321 GE321;clear hb hbox hg;obtain ⟨Z20_0,Z20_1,Z20_2,Z20_3⟩:=zc4 BK321;obtain ⟨V20_0,V20_1,V20_2,V20_3⟩:=zf4 BK321)|((with_reducible refine gate_callee (f:=47) rfl ?_);refine zL (some 7) Tryz.func47 #[.agg #[.int .i64 a0_0,.int .i64 a0_1,.int .i64 a0_2,.int .i64 a0_3]] ?_;(with_reducible refine (spec_l05Is.calls a0_0 a0_1 a0_2 a0_3 true _ A3.1).mono ?_);rintro e w21 ⟨rfl,hb⟩;refine ⟨_,rfl,?_⟩;refine zA2 (zY BK321.1 hb) (below_step (zH1 HB.1 GE321.1) hb) ?_;clear BK321 HB;intro BK321 HB;(try clear hb))|((with_reducible refine gate_callee (f:=74) rfl ?_);refine zL (some 11) Tryz.func74 #[.int .i64 a1,.int .i64 0,.int .i64 1] ?_;(with_reducible refine (spec_l01In.calls a1 0 1 false _ A5.1).mono ?_);rintro e w' ⟨rfl,⟨nd,rfl⟩⟩;refine ⟨_,rfl,?_⟩))
   go_ret
   exact ⟨zE,zH1 HB.1 GE321.1⟩
 ·replace c4:=Bool.eq_false_iff.mpr c4
  subst c4
  have H1:(some 1)=some r:=by rw [if_neg (show ¬ (false=true) by decide)] at H;exact H
  clear H
  have H:=H1
  clear H1
  obtain rfl:=Option.some.inj H
  go_enter Tryz.func58,Tryz.ntmps58
  go_wp2_with (first|((with_reducible refine gate_dst (N:=2) rfl ?_);refine zX 2 #[.int .i64 a0_0,.int .i64 a0_1,.int .i64 a0_2,.int .i64 a0_3] 25 ?_;intro gb321 hg w22 hbox hb;refine zA4 (below_step (zH HB.1) hb) (hbox) (zs hg HB:w.heap.size≤gb321) (zs hg HB:w.heap.size≤gb321) ?_;clear HB;intro HB BK321 GW321 GE321;clear hb hbox hg;obtain ⟨Z23_0,Z23_1,Z23_2,Z23_3⟩:=zc4 BK321;obtain ⟨V23_0,V23_1,V23_2,V23_3⟩:=zf4 BK321)|((with_reducible refine gate_callee (f:=47) rfl ?_);refine zL (some 7) Tryz.func47 #[.agg #[.int .i64 a0_0,.int .i64 a0_1,.int .i64 a0_2,.int .i64 a0_3]] ?_;(with_reducible refine (spec_l05Is.calls a0_0 a0_1 a0_2 a0_3 false _ A3.1).mono ?_);rintro e w24 ⟨rfl,hb⟩;refine ⟨_,rfl,?_⟩;refine zA2 (zY BK321.1 hb) (below_step (zH1 HB.1 GE321.1) hb) ?_;clear BK321 HB;intro BK321 HB;(try clear hb)))
  go_ret
  exact ⟨zE,zH1 HB.1 GE321.1⟩
def spec_l05Player.f (k:Nat) (a0_0:Int) (a0_1:Int) (a0_2:Int) (a0_3:Int) (a1:Int) (a2:Int):Option (Int):=(spec_l05Code.f k a0_0 a0_1 a0_2 a0_3 a1).bind fun t326=>(if t326=1 then (some t326) else ((spec_l01In.f a2 0 1).bind fun t327=>(if t327=true then (some t326) else (some 2))))
theorem spec_l05Player.calls (k:Nat) (a0_0:Int) (a0_1:Int) (a0_2:Int) (a0_3:Int) (a1:Int) (a2:Int) (r:Int) (w:World) (h:spec_l05Player.f k a0_0 a0_1 a0_2 a0_3 a1 a2=some r):
 Calls Tryz.prog 32 #[.agg #[.int .i64 a0_0,.int .i64 a0_1,.int .i64 a0_2,.int .i64 a0_3],.int .i64 a1,.int .i64 a2] w fun e w'=>e=.returned (.int .i64 r)∧Below w.heap.size w w':=by
 have hu25:=Tryz.underlying25
 have HB:=Aside0.mk (Below.refl w.heap.size w)
 have H:((spec_l05Code.f k a0_0 a0_1 a0_2 a0_3 a1).bind fun t326=>(if t326=1 then (some t326) else ((spec_l01In.f a2 0 1).bind fun t327=>(if t327=true then (some t326) else (some 2)))))=some r:=h
 clear h
 obtain ⟨t326,A4,H⟩:=zb H
 by_cases c5:t326=1
 ·rw [if_pos c5] at H
  have c5b0:=zq1 c5
  have c5b1:=zq2 c5
  clear c5
  obtain rfl:=Option.some.inj H
  go_enter Tryz.func32,Tryz.ntmps32
  go_wp2_with (first|((with_reducible refine gate_dst (N:=3) rfl ?_);refine zX 3 #[.int .i64 a0_0,.int .i64 a0_1,.int .i64 a0_2,.int .i64 a0_3] 25 ?_;intro gb325 hg w6 hbox hb;refine zA4 (below_step (zH HB.1) hb) (hbox) (zs hg HB:w.heap.size≤gb325) (zs hg HB:w.heap.size≤gb325) ?_;clear HB;intro HB BK325 GW325 GE325;clear hb hbox hg;obtain ⟨Z7_0,Z7_1,Z7_2,Z7_3⟩:=zc4 BK325;obtain ⟨V7_0,V7_1,V7_2,V7_3⟩:=zf4 BK325)|((with_reducible refine gate_callee (f:=58) rfl ?_);refine zL (some 10) Tryz.func58 #[.agg #[.int .i64 a0_0,.int .i64 a0_1,.int .i64 a0_2,.int .i64 a0_3],.int .i64 a1] ?_;(with_reducible refine (spec_l05Code.calls k a0_0 a0_1 a0_2 a0_3 a1 t326 _ A4.1).mono ?_);rintro e w8 ⟨rfl,hb⟩;refine ⟨_,rfl,?_⟩;refine zA2 (zY BK325.1 hb) (below_step (zH1 HB.1 GE325.1) hb) ?_;clear BK325 HB;intro BK325 HB;(try clear hb)))
  go_ret
  exact ⟨zE,zH1 HB.1 GE325.1⟩
 ·rw [if_neg c5] at H
  have c5b0:=zq3 c5
  have c5b1:=zq4 c5
  obtain ⟨t327,A9,H⟩:=zb H
  by_cases c10:t327=true
  ·subst c10
   have H1:(some t326)=some r:=by rw [if_pos rfl] at H;exact H
   clear H
   have H:=H1
   clear H1
   obtain rfl:=Option.some.inj H
   go_enter Tryz.func32,Tryz.ntmps32
   go_wp2_with (first|((with_reducible refine gate_dst (N:=3) rfl ?_);refine zX 3 #[.int .i64 a0_0,.int .i64 a0_1,.int .i64 a0_2,.int .i64 a0_3] 25 ?_;intro gb325 hg w11 hbox hb;refine zA4 (below_step (zH HB.1) hb) (hbox) (zs hg HB:w.heap.size≤gb325) (zs hg HB:w.heap.size≤gb325) ?_;clear HB;intro HB BK325 GW325 GE325;clear hb hbox hg;obtain ⟨Z12_0,Z12_1,Z12_2,Z12_3⟩:=zc4 BK325;obtain ⟨V12_0,V12_1,V12_2,V12_3⟩:=zf4 BK325)|((with_reducible refine gate_callee (f:=58) rfl ?_);refine zL (some 10) Tryz.func58 #[.agg #[.int .i64 a0_0,.int .i64 a0_1,.int .i64 a0_2,.int .i64 a0_3],.int .i64 a1] ?_;(with_reducible refine (spec_l05Code.calls k a0_0 a0_1 a0_2 a0_3 a1 t326 _ A4.1).mono ?_);rintro e w13 ⟨rfl,hb⟩;refine ⟨_,rfl,?_⟩;refine zA2 (zY BK325.1 hb) (below_step (zH1 HB.1 GE325.1) hb) ?_;clear BK325 HB;intro BK325 HB;(try clear hb))|(go_at_call 74;(with_reducible refine (spec_l01In.calls a2 0 1 true _ A9.1).mono ?_);rintro e w' ⟨rfl,⟨nd,rfl⟩⟩))
   go_ret
   exact ⟨zE,zH1 HB.1 GE325.1⟩
  ·replace c10:=Bool.eq_false_iff.mpr c10
   subst c10
   have H1:(some 2)=some r:=by rw [if_neg (show ¬ (false=true) by decide)] at H;exact H
   clear H
   have H:=H1
   clear H1
   obtain rfl:=Option.some.inj H
   go_enter Tryz.func32,Tryz.ntmps32
   go_wp2_with (first|((with_reducible refine gate_dst (N:=3) rfl ?_);refine zX 3 #[.int .i64 a0_0,.int .i64 a0_1,.int .i64 a0_2,.int .i64 a0_3] 25 ?_;intro gb325 hg w14 hbox hb;refine zA4 (below_step (zH HB.1) hb) (hbox) (zs hg HB:w.heap.size≤gb325) (zs hg HB:w.heap.size≤gb325) ?_;clear HB;intro HB BK325 GW325 GE325;clear hb hbox hg;obtain ⟨Z15_0,Z15_1,Z15_2,Z15_3⟩:=zc4 BK325;obtain ⟨V15_0,V15_1,V15_2,V15_3⟩:=zf4 BK325)|((with_reducible refine gate_callee (f:=58) rfl ?_);refine zL (some 10) Tryz.func58 #[.agg #[.int .i64 a0_0,.int .i64 a0_1,.int .i64 a0_2,.int .i64 a0_3],.int .i64 a1] ?_;(with_reducible refine (spec_l05Code.calls k a0_0 a0_1 a0_2 a0_3 a1 t326 _ A4.1).mono ?_);rintro e w16 ⟨rfl,hb⟩;refine ⟨_,rfl,?_⟩;refine zA2 (zY BK325.1 hb) (below_step (zH1 HB.1 GE325.1) hb) ?_;clear BK325 HB;intro BK325 HB;(try clear hb))|(go_at_call 74;(with_reducible refine (spec_l01In.calls a2 0 1 false _ A9.1).mono ?_);rintro e w' ⟨rfl,⟨nd,rfl⟩⟩))
   go_ret
   exact ⟨zE,zH1 HB.1 GE325.1⟩
def spec_l05Table.l0:Nat→Int→Int→Int→Int→Int→Int→Option (List Int)
 |0,_,_,_,_,_,_=>none
 |k+1,x3,x4,x329000,x329001,x329002,x329003=>if x4<x329000 then (spec_l05Table.l0 k (wrap64 (x3*3)) (wrap64 (x4+1)) x329000 x329001 x329002 x329003) else (if 0≤x3 then (if (x3:Int).toNat≤281474976710656 then (some (List.replicate (x3:Int).toNat 0)) else (none)) else (none))
def spec_l05Table.f (k:Nat) (a0_0:Int) (a0_1:Int) (a0_2:Int) (a0_3:Int):Option (List Int):=spec_l05Table.l0 k 2 0 a0_0 a0_1 a0_2 a0_3
theorem spec_l05Table.calls (k:Nat) (a0_0:Int) (a0_1:Int) (a0_2:Int) (a0_3:Int) (r:List Int) (w:World) (h:spec_l05Table.f k a0_0 a0_1 a0_2 a0_3=some r):
 Calls Tryz.prog 33 #[.agg #[.int .i64 a0_0,.int .i64 a0_1,.int .i64 a0_2,.int .i64 a0_3]] w fun e w'=>∃ v0_:Value,e=.returned (v0_)∧Kd.R (Kd.int .i8) 127 w' w.heap.size (fun _=>True) v0_ r∧Below w.heap.size w w':=by
 have hu25:=Tryz.underlying25
 have HB:=Aside0.mk (Below.refl w.heap.size w)
 have H:(spec_l05Table.l0 k 2 0 a0_0 a0_1 a0_2 a0_3)=some r:=h
 clear h
 have H':=Aside0.mk H
 clear H
 go_enter Tryz.func33,Tryz.ntmps33
 go_wp2_with (first|((with_reducible refine gate_dst (N:=1) rfl ?_);refine zX 1 #[.int .i64 a0_0,.int .i64 a0_1,.int .i64 a0_2,.int .i64 a0_3] 25 ?_;intro gb328 hg w2 hbox hb;refine zA4 (below_step (zH HB.1) hb) (hbox) (zs hg HB:w.heap.size≤gb328) (zs hg HB:w.heap.size≤gb328) ?_;clear HB;intro HB BK328 GW328 GE328;clear hb hbox hg))
 go_loopg [3,4] k (fun kq v3 v4 w'=>∃ (x3_1:Int) (x4_1:Int),v3=.int .i64 x3_1∧v4=.int .i64 x4_1∧Aside0 (spec_l05Table.l0 kq x3_1 x4_1 a0_0 a0_1 a0_2 a0_3=some r)∧Aside0 (kq≤k)∧Aside0 (w'.heap[gb328]?=some (.cells #[.int .i64 a0_0,.int .i64 a0_1,.int .i64 a0_2,.int .i64 a0_3] 25 (0,0)))∧Aside0 (Below w.heap.size w w'))
 case atStart=>exact ⟨(2),(0),(zF),(zF),H',⟨Nat.le_refl _⟩,⟨zB BK328.1⟩,⟨zH1 HB.1 GE328.1⟩⟩
 case round=>
  clear H'
  try clear p2
  obtain ⟨x3_1,x4_1,rfl,rfl,HA,HK1,BK328,HB⟩:=hrel
  cases gk with
  |zero=>exact absurd HA.1 (by simp [spec_l05Table.l0])
  |succ k1=>
   have H:=HA.1
   clear HA
   simp only [spec_l05Table.l0] at H
   by_cases c3:x4_1<a0_0
   ·rw [if_pos c3] at H
    have c3b0:=decide_eq_true c3
    clear c3
    have H':=Aside0.mk H
    clear H
    obtain ⟨Z4_0,Z4_1,Z4_2,Z4_3⟩:=zc4 BK328
    obtain ⟨V4_0,V4_1,V4_2,V4_3⟩:=zf4 BK328
    go_wp2
    go_roundg k1
    case measure=>have:=HK1.1;omega
    case rel=>exact ⟨(wrap64 (x3_1*3)),(wrap64 (x4_1+1)),(zF),(zF),H',⟨by have:=HK1.1;omega⟩,⟨zB BK328.1⟩,⟨zH1 HB.1 GE328.1⟩⟩
   ·rw [if_neg c3] at H
    have c3b0:=decide_eq_false c3
    clear c3
    by_cases c5:0≤x3_1
    ·rw [if_pos c5] at H
     have c5b0:=eq_true c5
     have c5b1:=decide_eq_true c5
     clear c5
     by_cases c6:(x3_1:Int).toNat≤281474976710656
     ·rw [if_pos c6] at H
      have c6b0:=eq_true c6
      have c6b1:=decide_eq_true c6
      clear c6
      obtain ⟨y329,hy329⟩:∃ y_:List Int,y_=(List.replicate (x3_1:Int).toNat 0):=⟨_,rfl⟩
      replace H:(some y329)=some r:=by first|(rw [hy329];with_reducible exact H)|(have H2_:=(Option.bind_some _ _).symm.trans H;rw [hy329];with_reducible exact H2_)|(have H2_:=(Option.bind_some _ _).symm.trans H;with_reducible exact H2_)|with_reducible exact H|(rw [hy329];exact H)|exact H
      have Ny329:=Aside0.mk hy329
      clear hy329
      obtain rfl:=Option.some.inj H
      obtain ⟨Z7_0,Z7_1,Z7_2,Z7_3⟩:=zc4 BK328
      obtain ⟨V7_0,V7_1,V7_2,V7_3⟩:=zf4 BK328
      go_wp2_with (first|((with_reducible refine gate_dst (N:=14) rfl ?_);refine Kd.R_make (Kd.int .i8) _ 127 rfl (N:=14) rfl 62 _ _ rfl x3_1 rfl rfl Tryz.underlying62 (.int .i8 0) 1 info127 rfl (by decide) (by omega) 0 (ok:=fun _=>True) (okp:=fun _=>True) rfl (fun _ hk=>hk) trivial zo (Nat.le_trans (Nat.mul_le_mul_right _ (zo:x3_1.toNat≤281474976710656)) (by omega)) (Below.refl _ _) (Nat.le_refl _) ?_;intro v330 w8 ho9 hb hg_ hnew_;clear hg_ hnew_;(first|rw [← Ny329.1] at ho9|(simp only [Int.reduceToNat] at ho9;rw [← Ny329.1] at ho9));refine zA3 (Kd.R_lower ho9 (below_size (zH1 HB.1 GE328.1))) (zY BK328.1 hb) (below_step (zH1 HB.1 GE328.1) hb) ?_;clear BK328 HB;intro HO331 BK328 HB;clear hb ho9))
      go_ret
      exact ⟨_,zE,by (with_reducible repeat (first|apply Kd.R_alloc|apply Kd.R_drewN|apply Kd.R_drew));exact HO331.1,zH1 HB.1 GE328.1⟩
     ·rw [if_neg c6] at H
      exact absurd H (by simp)
    ·rw [if_neg c5] at H
     exact absurd H (by simp)
def spec_l05Place.l0:Nat→Int→Int→Int→Int→Int→Int→Int→Option (Int)
 |0,_,_,_,_,_,_,_=>none
 |k+1,x1,x5,x6,x333000,x333001,x333002,x333003=>if x6<x333000 then (if 0≤(IntKind.u64.wrap (x6)) then (spec_l05Place.l0 k x1 (wrap64 ((wrap64 ((wrap64 (x5*3))+(Go.bits .and .i64 (shr .i64 x333002 (IntKind.u64.wrap (x6))) 1)))+(wrap64 (2*(Go.bits .and .i64 (shr .i64 x333003 (IntKind.u64.wrap (x6))) 1))))) (wrap64 (x6+1)) x333000 x333001 x333002 x333003) else (none)) else (some (wrap64 ((wrap64 (x5*2))+x1)))
def spec_l05Place.f (k:Nat) (a0_0:Int) (a0_1:Int) (a0_2:Int) (a0_3:Int) (a1:Int):Option (Int):=spec_l05Place.l0 k a1 0 0 a0_0 a0_1 a0_2 a0_3
theorem spec_l05Place.calls (k:Nat) (a0_0:Int) (a0_1:Int) (a0_2:Int) (a0_3:Int) (a1:Int) (r:Int) (w:World) (h:spec_l05Place.f k a0_0 a0_1 a0_2 a0_3 a1=some r):
 Calls Tryz.prog 91 #[.agg #[.int .i64 a0_0,.int .i64 a0_1,.int .i64 a0_2,.int .i64 a0_3],.int .i64 a1] w fun e w'=>e=.returned (.int .i64 r)∧Below w.heap.size w w':=by
 have hu25:=Tryz.underlying25
 have HB:=Aside0.mk (Below.refl w.heap.size w)
 have H:(spec_l05Place.l0 k a1 0 0 a0_0 a0_1 a0_2 a0_3)=some r:=h
 clear h
 have H':=Aside0.mk H
 clear H
 go_enter Tryz.func91,Tryz.ntmps91
 go_wp2_with (first|((with_reducible refine gate_dst (N:=2) rfl ?_);refine zX 2 #[.int .i64 a0_0,.int .i64 a0_1,.int .i64 a0_2,.int .i64 a0_3] 25 ?_;intro gb332 hg w3 hbox hb;refine zA4 (below_step (zH HB.1) hb) (hbox) (zs hg HB:w.heap.size≤gb332) (zs hg HB:w.heap.size≤gb332) ?_;clear HB;intro HB BK332 GW332 GE332;clear hb hbox hg))
 go_loopg [5,6] k (fun kq v5 v6 w'=>∃ (x5_1:Int) (x6_1:Int),v5=.int .i64 x5_1∧v6=.int .i64 x6_1∧Aside0 (spec_l05Place.l0 kq a1 x5_1 x6_1 a0_0 a0_1 a0_2 a0_3=some r)∧Aside0 (kq≤k)∧Aside0 (w'.heap[gb332]?=some (.cells #[.int .i64 a0_0,.int .i64 a0_1,.int .i64 a0_2,.int .i64 a0_3] 25 (0,0)))∧Aside0 (Below w.heap.size w w'))
 case atStart=>exact ⟨(0),(0),(zF),(zF),H',⟨Nat.le_refl _⟩,⟨zB BK332.1⟩,⟨zH1 HB.1 GE332.1⟩⟩
 case round=>
  clear H'
  try clear p2
  obtain ⟨x5_1,x6_1,rfl,rfl,HA,HK1,BK332,HB⟩:=hrel
  cases gk with
  |zero=>exact absurd HA.1 (by simp [spec_l05Place.l0])
  |succ k1=>
   have H:=HA.1
   clear HA
   simp only [spec_l05Place.l0] at H
   by_cases c4:x6_1<a0_0
   ·rw [if_pos c4] at H
    have c4b0:=decide_eq_true c4
    clear c4
    obtain ⟨ji5,hji5⟩:=zj (IntKind.u64.wrap (x6_1))
    (first|rw [hji5] at H|simp only [hji5] at H)
    by_cases c6:0≤(ji5)
    ·rw [if_pos c6] at H
     have c6b0:=eq_true c6
     have c6b1:=decide_eq_true c6
     clear c6
     obtain ⟨ji7,hji7⟩:=zj (shr .i64 a0_2 (ji5))
     (first|rw [hji7] at H|simp only [hji7] at H)
     have hji7_:(a0_2/2 ^ min (ji5).toNat 64)=ji7:=hji7
     have hji7z:(ji5)≤64→(a0_2/2 ^ (ji5).toNat)=ji7:=shr_small hji7
     have c8b0:=eq_true (zo:0≤(ji5))
     obtain ⟨ji9,hji9⟩:=zj (shr .i64 a0_3 (ji5))
     (first|rw [hji9] at H|simp only [hji9] at H)
     have hji9_:(a0_3/2 ^ min (ji5).toNat 64)=ji9:=hji9
     have hji9z:(ji5)≤64→(a0_3/2 ^ (ji5).toNat)=ji9:=shr_small hji9
     have H':=Aside0.mk H
     clear H
     obtain ⟨Z10_0,Z10_1,Z10_2,Z10_3⟩:=zc4 BK332
     obtain ⟨V10_0,V10_1,V10_2,V10_3⟩:=zf4 BK332
     go_wp2
     go_roundg k1
     case measure=>have:=HK1.1;omega
     case rel=>exact ⟨(wrap64 ((wrap64 ((wrap64 (x5_1*3))+(Go.bits .and .i64 (ji7) 1)))+(wrap64 (2*(Go.bits .and .i64 (ji9) 1))))),(wrap64 (x6_1+1)),(by first|rfl|(simp;done)|(simp only [← hji7,← hji9] <;> (first|rfl|simp))|(simp [*];done)),(zF),H',⟨by have:=HK1.1;omega⟩,⟨zB BK332.1⟩,⟨zH1 HB.1 GE332.1⟩⟩
    ·rw [if_neg c6] at H
     exact absurd H (by simp)
   ·rw [if_neg c4] at H
    have c4b0:=decide_eq_false c4
    clear c4
    obtain rfl:=Option.some.inj H
    obtain ⟨Z11_0,Z11_1,Z11_2,Z11_3⟩:=zc4 BK332
    obtain ⟨V11_0,V11_1,V11_2,V11_3⟩:=zf4 BK332
    go_wp2
    go_ret
    exact ⟨zE,zH1 HB.1 GE332.1⟩
mutual
def spec_l05Wins.l0:Nat→Int→Int→List Int→Int→List Int→Bool→Int→Int→Int→Int→Int→Option (Bool×List Int)
 |0,_,_,_,_,_,_,_,_,_,_,_=>none
 |k+1,x1,x2,x3,x9,x10,x11,x12,x334000,x334001,x334002,x334003=>if x12<(x10.length:Int) then (spec_l05Wins.j1 k x1 x2 x3 x9 x10 x11 x12 (!x11) x334000 x334001 x334002 x334003) else (spec_l05Wins.j1 k x1 x2 x3 x9 x10 x11 x12 false x334000 x334001 x334002 x334003)
def spec_l05Wins.j1:Nat→Int→Int→List Int→Int→List Int→Bool→Int→Bool→Int→Int→Int→Int→Option (Bool×List Int)
 |0,_,_,_,_,_,_,_,_,_,_,_,_=>none
 |k+1,x1,x2,x3,x9,x10,x11,x12,x37,x334000,x334001,x334002,x334003=>if x37=true then (if 0≤x12 then (if x12<(x10.length:Int) then ((spec_l05Move.f x334000 x334001 x334002 x334003 x2 (rd x10 x12)).bind fun bt341=>((spec_l05Wins.f k bt341.1 bt341.2.1 bt341.2.2.1 bt341.2.2.2 x1 (wrap64 (1-x2)) x3).bind fun bt345=>(spec_l05Wins.l0 k x1 x2 bt345.2 x9 x10 (!bt345.1) (wrap64 (x12+1)) x334000 x334001 x334002 x334003))) else (none)) else (none)) else (if 0≤x9 then (if x9<(x3.length:Int) then ((some (x3.set (x9:Int).toNat 1:List Int)).bind fun y347=>(if x11=true then (some (x11,(y347.set (x9:Int).toNat 2))) else (some (x11,y347)))) else (none)) else (none))
def spec_l05Wins.f:Nat→Int→Int→Int→Int→Int→Int→List Int→Option (Bool×List Int)
 |0,_,_,_,_,_,_,_=>none
 |k+1,a0_0,a0_1,a0_2,a0_3,a1,a2,l3=>(spec_l05Place.f k a0_0 a0_1 a0_2 a0_3 a2).bind fun t334=>(if 0≤t334 then (if t334<(l3.length:Int) then (if (rd l3 t334)>0 then (some (((rd l3 t334)==2),l3)) else ((spec_l05Points.f k a0_0 a0_1 a0_2 a0_3 a1 a2).bind fun t337=>(spec_l05Wins.l0 k a1 a2 l3 t334 t337 false 0 a0_0 a0_1 a0_2 a0_3))) else (none)) else (none))
end
def spec_l05Wins.T8:Bool×List (List Nat×List Nat):=(true,[([],[]),([],[]),([],[]),([],[]),([2,3],[2,3]),([4],[4]),([0,1,5],[0,1,5]),([],[]),([],[]),([8],[8]),([],[]),([6,7,9,10,6],[6,7,9,10]),([11],[11]),([12,11,0,1,2,3,4,5,6,7,8,9,10,11,12],[12])])
def spec_l05Wins.B8:List Nat:=[0,0,0,0,12,28,63,0,0,256,0,2047,4095,8191]
theorem spec_l05Wins.tab8:rtab .any (opsOf Tryz.f75 8)=spec_l05Wins.T8:=by kernel_rfl
theorem spec_l05Wins.bits8:waitsOk spec_l05Wins.T8.2 spec_l05Wins.B8=true:=by kernel_rfl
theorem spec_l05Wins.calls (k:Nat):∀ (a0_0:Int) (a0_1:Int) (a0_2:Int) (a0_3:Int) (a1:Int) (a2:Int) (P3_:Nat→Prop) (u9000_:Value) (l3:List Int) (r1:Bool) (r2:List Int) (w0 w:World) (hB:Below w0.heap.size w0 w) (ho3:Kd.R (Kd.int .i8) 127 w w0.heap.size P3_ u9000_ l3) (h:spec_l05Wins.f k a0_0 a0_1 a0_2 a0_3 a1 a2 l3=some (r1,r2)),
 Calls Tryz.prog 75 #[.agg #[.int .i64 a0_0,.int .i64 a0_1,.int .i64 a0_2,.int .i64 a0_3],.int .i64 a1,.int .i64 a2,u9000_] w fun e w'=>e=.returned (.bool r1)∧Kd.R (Kd.int .i8) 127 w' w0.heap.size (fun k_=>(P3_ k_∨w.heap.size≤k_)) u9000_ r2∧Below w0.heap.size w0 w'∧Kept w w' (fun k_=>P3_ k_):=by
 induction k using Nat.strongRecOn with
 |_ k ih=>
 intro a0_0 a0_1 a0_2 a0_3 a1 a2 P3_ u9000_ l3 r1 r2 w0 w hB ho3 h
 cases k with
 |zero=>exact absurd h (by simp [spec_l05Wins.f])
 |succ k=>
 simp only [spec_l05Wins.f] at h
 have hu25:=Tryz.underlying25
 have HO3:=Aside0.mk (show Kd.R (Kd.int .i8) 127 w w0.heap.size (fun k_=>(P3_ k_∨w.heap.size≤k_)) u9000_ l3 from Kd.R_mono ho3 (fun k_ hk=>(.inl hk)))
 have HK:=Aside0.mk (Kept.refl w (fun k_=>P3_ k_))
 have HW0:=Aside0.mk hB.size
 have HB:=Aside0.mk hB
 clear hB
 have H:((spec_l05Place.f k a0_0 a0_1 a0_2 a0_3 a2).bind fun t334=>(if 0≤t334 then (if t334<(l3.length:Int) then (if (rd l3 t334)>0 then (some (((rd l3 t334)==2),l3)) else ((spec_l05Points.f k a0_0 a0_1 a0_2 a0_3 a1 a2).bind fun t337=>(spec_l05Wins.l0 k a1 a2 l3 t334 t337 false 0 a0_0 a0_1 a0_2 a0_3))) else (none)) else (none)))=some (r1,r2):=h
 clear h
 obtain ⟨t334,A5,H⟩:=zb H
 by_cases c6:0≤t334
 ·rw [if_pos c6] at H
  have c6b0:=decide_eq_true c6
  clear c6
  by_cases c7:t334<(l3.length:Int)
  ·rw [if_pos c7] at H
   have c7b0:=decide_eq_true c7
   clear c7
   by_cases c8:(rd l3 t334)>0
   ·rw [if_pos c8] at H
    have c8b0:=decide_eq_true c8
    clear c8
    simp only [Option.some.injEq,Prod.mk.injEq] at H
    obtain ⟨rfl,rfl⟩:=H
    go_enter Tryz.func75,Tryz.ntmps75
    go_wp2_with (first|((with_reducible refine gate_dst (N:=4) rfl ?_);refine zX 4 #[.int .i64 a0_0,.int .i64 a0_1,.int .i64 a0_2,.int .i64 a0_3] 25 ?_;intro gb333 hg w9 hbox hb;refine zA6 (Kd.R_below (zR HO3.1) hb) (Kept.below (S:=(fun k_=>P3_ k_)) (zK HK.1) hb) (below_step (zH HB.1) hb) (hbox) ((by rw [hg];exact (by first|exact HK.1.1|exact (show Kept w _ (fun k_=>P3_ k_) from zK HK.1).1):w.heap.size≤gb333)) ((zS hg (below_size (zH HB.1)):w0.heap.size≤gb333)) ?_;clear HO3 HK HB;intro HO3 HK HB BK333 GW333 GE333;clear hb hbox hg;obtain ⟨Z10_0,Z10_1,Z10_2,Z10_3⟩:=zc4 BK333;obtain ⟨V10_0,V10_1,V10_2,V10_3⟩:=zf4 BK333)|((with_reducible refine gate_callee (f:=91) rfl ?_);refine zL (some 15) Tryz.func91 #[.agg #[.int .i64 a0_0,.int .i64 a0_1,.int .i64 a0_2,.int .i64 a0_3],.int .i64 a2] ?_;(with_reducible refine (spec_l05Place.calls k a0_0 a0_1 a0_2 a0_3 a2 t334 _ A5.1).mono ?_);rintro e w11 ⟨rfl,hb⟩;refine ⟨_,rfl,?_⟩;refine zA4 (Kd.R_below (zR HO3.1) hb) (zY BK333.1 hb) (Kept.below (S:=(fun k_=>P3_ k_)) (zK1 HK.1 GW333.1) hb) (below_step (zH1 HB.1 GE333.1) hb) ?_;clear HO3 BK333 HK HB;intro HO3 BK333 HK HB;(try clear hb);obtain ⟨Ao12,co12,eo12⟩:=Kd.R_slice HO3.1;subst eo12;have p335:0≤(t334:Int):=zo;have q335:t334<(l3.length:Int):=zo;obtain ⟨ad335,e335,hx335_0⟩:=Kd.at_int (Kd.R_reads' HO3.1).2.2 t334 p335 q335;cases e335;replace p335:=eq_true p335;replace q335:=eq_true q335;have p336:0≤(t334:Int):=zo;have q336:t334<(l3.length:Int):=zo;obtain ⟨ad336,e336,hx336_0⟩:=Kd.at_int (Kd.R_reads' HO3.1).2.2 t334 p336 q336;obtain rfl:ad335=ad336:=(by injection e336);replace p336:=eq_true p336;replace q336:=eq_true q336))
    go_ret
    exact ⟨zE,by (with_reducible repeat (first|apply Kd.R_alloc|apply Kd.R_drewN|apply Kd.R_drew));exact HO3.1,zH1 HB.1 GE333.1,zK1 HK.1 GW333.1⟩
   ·rw [if_neg c8] at H
    have c8b0:=decide_eq_false c8
    clear c8
    obtain ⟨t337,A13,H⟩:=zb H
    have H':=Aside0.mk H
    clear H
    go_enter Tryz.func75,Tryz.ntmps75
    go_wp2_with (first|((with_reducible refine gate_dst (N:=4) rfl ?_);refine zX 4 #[.int .i64 a0_0,.int .i64 a0_1,.int .i64 a0_2,.int .i64 a0_3] 25 ?_;intro gb333 hg w14 hbox hb;refine zA6 (Kd.R_below (zR HO3.1) hb) (Kept.below (S:=(fun k_=>P3_ k_)) (zK HK.1) hb) (below_step (zH HB.1) hb) (hbox) ((by rw [hg];exact (by first|exact HK.1.1|exact (show Kept w _ (fun k_=>P3_ k_) from zK HK.1).1):w.heap.size≤gb333)) ((zS hg (below_size (zH HB.1)):w0.heap.size≤gb333)) ?_;clear HO3 HK HB;intro HO3 HK HB BK333 GW333 GE333;clear hb hbox hg;obtain ⟨Z15_0,Z15_1,Z15_2,Z15_3⟩:=zc4 BK333;obtain ⟨V15_0,V15_1,V15_2,V15_3⟩:=zf4 BK333)|((with_reducible refine gate_callee (f:=91) rfl ?_);refine zL (some 15) Tryz.func91 #[.agg #[.int .i64 a0_0,.int .i64 a0_1,.int .i64 a0_2,.int .i64 a0_3],.int .i64 a2] ?_;(with_reducible refine (spec_l05Place.calls k a0_0 a0_1 a0_2 a0_3 a2 t334 _ A5.1).mono ?_);rintro e w16 ⟨rfl,hb⟩;refine ⟨_,rfl,?_⟩;refine zA4 (Kd.R_below (zR HO3.1) hb) (zY BK333.1 hb) (Kept.below (S:=(fun k_=>P3_ k_)) (zK1 HK.1 GW333.1) hb) (below_step (zH1 HB.1 GE333.1) hb) ?_;clear HO3 BK333 HK HB;intro HO3 BK333 HK HB;(try clear hb);obtain ⟨Ao17,co17,eo17⟩:=Kd.R_slice HO3.1;subst eo17;have p335:0≤(t334:Int):=zo;have q335:t334<(l3.length:Int):=zo;obtain ⟨ad335,e335,hx335_0⟩:=Kd.at_int (Kd.R_reads' HO3.1).2.2 t334 p335 q335;cases e335;replace p335:=eq_true p335;replace q335:=eq_true q335;obtain ⟨Z18_0,Z18_1,Z18_2,Z18_3⟩:=zc4 BK333;obtain ⟨V18_0,V18_1,V18_2,V18_3⟩:=zf4 BK333)|((with_reducible refine gate_callee (f:=35) rfl ?_);refine zL (some 29) Tryz.func35 #[.agg #[.int .i64 a0_0,.int .i64 a0_1,.int .i64 a0_2,.int .i64 a0_3],.int .i64 a1,.int .i64 a2] ?_;(with_reducible refine (spec_l05Points.calls k a0_0 a0_1 a0_2 a0_3 a1 a2 t337 _ A13.1).mono ?_);rintro e w19 ⟨v338,rfl,ho0,hb⟩;refine ⟨_,rfl,?_⟩;refine zA5 (Kd.R_below (zR HO3.1) hb) (Kd.R_lower (Kd.R_newM (M:=fun k_=>(P3_ k_∨w.heap.size≤k_)) ho0 (by first|exact HK.1.1|exact (show Kept w _ (fun k_=>P3_ k_) from zK1 HK.1 GW333.1).1) (fun k_ h_=>.inr h_)) (below_size (zH1 HB.1 GE333.1))) (zY BK333.1 hb) (Kept.below (S:=(fun k_=>P3_ k_)) (zK1 HK.1 GW333.1) hb) (below_step (zH1 HB.1 GE333.1) hb) ?_;clear HO3 BK333 HK HB;intro HO3 HO339 BK333 HK HB;(try clear hb);(try clear ho0)))
    go_loopg [11,12] k (fun kq v11 v12 w'=>∃ (x3_1:List Int) (x11_1:Bool) (x12_1:Int),v11=.bool x11_1∧v12=.int .i64 x12_1∧Aside0 (spec_l05Wins.l0 kq a1 a2 x3_1 t334 t337 x11_1 x12_1 a0_0 a0_1 a0_2 a0_3=some (r1,r2))∧Aside0 (kq≤k)∧Aside0 (Kd.R (Kd.int .i8) 127 w' w0.heap.size (fun k_=>(P3_ k_∨w.heap.size≤k_)) (.slice (some ad335) l3.length co17) x3_1)∧Aside0 (Kd.R (Kd.int .i64) 2 w' w0.heap.size (fun k_=>(P3_ k_∨w.heap.size≤k_)) v338 t337)∧Aside0 (w'.heap[gb333]?=some (.cells #[.int .i64 a0_0,.int .i64 a0_1,.int .i64 a0_2,.int .i64 a0_3] 25 (0,0)))∧Aside0 (Kept w w' (fun k_=>P3_ k_))∧Aside0 (Below w0.heap.size w0 w'))
    case atStart=>exact ⟨(l3),(false),(0),(zF),(zF),H',⟨Nat.le_refl _⟩,⟨zR HO3.1⟩,⟨zRm HO339.1 (fun _ hk=>hk.1)⟩,⟨zB BK333.1⟩,⟨zK1 HK.1 GW333.1⟩,⟨zH1 HB.1 GE333.1⟩⟩
    case round=>
     clear H'
     try clear p2
     try clear c3
     try clear p3
     try clear q3
     try clear hx3
     try clear c6
     try clear c6b0
     try clear c7
     try clear c7b0
     try clear c8
     try clear c8b0
     try clear c9
     try clear Z10_0 Z10_1 Z10_2 Z10_3
     try clear Z15_0 Z15_1 Z15_2 Z15_3
     try clear Z18_0 Z18_1 Z18_2 Z18_3
     try clear V10_0 V10_1 V10_2 V10_3
     try clear V15_0 V15_1 V15_2 V15_3
     try clear V18_0 V18_1 V18_2 V18_3
     try clear hx335_0
     try clear hx336_0
     try clear p335
     try clear p336
     try clear q335
     try clear q336
     obtain ⟨x3_1,x11_1,x12_1,rfl,rfl,HA,HK1,HO_3,HO_10,BK333,HK,HB⟩:=hrel
     have hl3_1:=(Kd.R_reads' HO_3.1).1
     rw [hl3_1] at HO_3
     (try simp only [hl3_1])
     (try simp only [hl3_1] at BK333)
     (try simp only [hl3_1] at HO_10)
     cases gk with
     |zero=>exact absurd HA.1 (by simp [spec_l05Wins.l0])
     |succ k1=>
      have H:=HA.1
      clear HA
      simp only [spec_l05Wins.l0] at H
      have HC20:=Aside0.mk H
      clear H
      go_upto_region 6 with (fail)
      go_cut [37] (fun v37 wc=>∃ (kq:Nat) (x37_19:Bool),v37=.bool x37_19∧Aside0 (spec_l05Wins.j1 kq a1 a2 x3_1 t334 t337 x11_1 x12_1 x37_19 a0_0 a0_1 a0_2 a0_3=some (r1,r2))∧Aside0 (kq≤k1)∧Aside0 (Kd.R (Kd.int .i8) 127 wc w0.heap.size (fun k_=>(P3_ k_∨w.heap.size≤k_)) (.slice (some ad335) x3_1.length co17) x3_1)∧Aside0 (Kd.R (Kd.int .i64) 2 wc w0.heap.size (fun k_=>(P3_ k_∨w.heap.size≤k_)) v338 t337)∧Aside0 (wc.heap[gb333]?=some (.cells #[.int .i64 a0_0,.int .i64 a0_1,.int .i64 a0_2,.int .i64 a0_3] 25 (0,0)))∧Aside0 (Kept w wc (fun k_=>P3_ k_))∧Aside0 (Below w0.heap.size w0 wc))
      case first=>
       have H:=HC20.1
       clear HC20
       by_cases c21:x12_1<(t337.length:Int)
       ·rw [if_pos c21] at H
        have c21b0:=decide_eq_true c21
        clear c21
        (first|rw [c21b0]|(simp only [i64_w,i32_w];rw [c21b0])|skip)
        have H':=Aside0.mk H
        clear H
        obtain ⟨Ao22,co22,eo22⟩:=Kd.R_slice HO_10.1
        subst eo22
        go_wp2
        go_meet
        case rel=>exact ⟨_,(!x11_1),(zF),H',⟨by have:=HK1.1;first|omega|exact Nat.le_refl _⟩,⟨by (try simp only [hl3_1]);exact zR HO_3.1⟩,⟨by (try simp only [hl3_1]);exact zR HO_10.1⟩,⟨by (try simp only [hl3_1]);exact zB BK333.1⟩,⟨zK1 HK.1 GW333.1⟩,⟨zH1 HB.1 GE333.1⟩⟩
       ·rw [if_neg c21] at H
        have c21b0:=decide_eq_false c21
        clear c21
        (first|rw [c21b0]|(simp only [i64_w,i32_w];rw [c21b0])|skip)
        have H':=Aside0.mk H
        clear H
        obtain ⟨Ao23,co23,eo23⟩:=Kd.R_slice HO_10.1
        subst eo23
        go_wp2
        go_meet
        case rel=>exact ⟨_,(false),(zF),H',⟨by have:=HK1.1;first|omega|exact Nat.le_refl _⟩,⟨by (try simp only [hl3_1]);exact zR HO_3.1⟩,⟨by (try simp only [hl3_1]);exact zR HO_10.1⟩,⟨by (try simp only [hl3_1]);exact zB BK333.1⟩,⟨zK1 HK.1 GW333.1⟩,⟨zH1 HB.1 GE333.1⟩⟩
      case rest=>
       clear HC20
       try clear c2
       try clear p2
       try clear c3
       try clear p3
       try clear q3
       try clear hx3
       try clear c6
       try clear c6b0
       try clear c7
       try clear c7b0
       try clear c8
       try clear c8b0
       try clear c9
       try clear c21
       try clear c21b0
       try clear Z10_0 Z10_1 Z10_2 Z10_3
       try clear Z15_0 Z15_1 Z15_2 Z15_3
       try clear Z18_0 Z18_1 Z18_2 Z18_3
       try clear V10_0 V10_1 V10_2 V10_3
       try clear V15_0 V15_1 V15_2 V15_3
       try clear V18_0 V18_1 V18_2 V18_3
       try clear hx335_0
       try clear hx336_0
       try clear p2
       try clear p3
       try clear p335
       try clear p336
       try clear q3
       try clear q335
       try clear q336
       obtain ⟨kq,x37_19,rfl,HA,HJ19,HO_3,HO_10,BK333,HK,HB⟩:=hcut
       cases kq with
       |zero=>exact absurd HA.1 (by simp [spec_l05Wins.j1])
       |succ kj19=>
        have H:=HA.1
        clear HA
        simp only [spec_l05Wins.j1] at H
        by_cases c24:x37_19=true
        ·subst c24
         have H1:(if 0≤x12_1 then (if x12_1<(t337.length:Int) then ((spec_l05Move.f a0_0 a0_1 a0_2 a0_3 a2 (rd t337 x12_1)).bind fun bt341=>((spec_l05Wins.f kj19 bt341.1 bt341.2.1 bt341.2.2.1 bt341.2.2.2 a1 (wrap64 (1-a2)) x3_1).bind fun bt345=>(spec_l05Wins.l0 kj19 a1 a2 bt345.2 t334 t337 (!bt345.1) (wrap64 (x12_1+1)) a0_0 a0_1 a0_2 a0_3))) else (none)) else (none))=some (r1,r2):=by rw [if_pos rfl] at H;exact H
         clear H
         have H:=H1
         clear H1
         by_cases c25:0≤x12_1
         ·rw [if_pos c25] at H
          have c25b0:=decide_eq_true c25
          clear c25
          by_cases c26:x12_1<(t337.length:Int)
          ·rw [if_pos c26] at H
           have c26b0:=decide_eq_true c26
           clear c26
           obtain ⟨⟨t341,t342,t343,t344⟩,A27,H⟩:=zb H;(try dsimp only at H)
           obtain ⟨⟨t345,t346⟩,A28,H⟩:=zb H;(try dsimp only at H)
           have H':=Aside0.mk H
           clear H
           try go_wp2
           refine zA5 (Kd.R_drew HO_3.1) (Kd.R_drew HO_10.1) (blk_drew BK333.1) (Kept.drew HK.1) (below_drew1 HB.1) ?_
           clear HO_3 HO_10 BK333 HK HB
           intro HO_3 HO_10 BK333 HK HB
           obtain ⟨Ao30,co30,eo30⟩:=Kd.R_slice HO_10.1
           (first|subst eo30|(injection eo30 with f1_ f2_ f3_;have f4_:=f1_.symm;have f5_:=f3_.symm;clear f1_ f2_ f3_;subst f4_;subst f5_))
           have p340:0≤(x12_1:Int):=zo
           have q340:x12_1<(t337.length:Int):=zo
           obtain ⟨ad340,e340,hx340_0⟩:=Kd.at_int (Kd.R_reads' HO_10.1).2.2 x12_1 p340 q340
           cases e340
           replace p340:=eq_true p340
           replace q340:=eq_true q340
           refine start_ (n:=14) (S:=fun w'=>w'.cell? ⟨gb333,0,none⟩=some (.int .i64 a0_0)∧w'.cell? ⟨gb333,1,none⟩=some (.int .i64 a0_1)∧w'.cell? ⟨gb333,2,none⟩=some (.int .i64 a0_2)∧w'.cell? ⟨gb333,3,none⟩=some (.int .i64 a0_3)∧w'.cell? (ad340.add (x12_1).toNat)=some (.int .i64 (rd t337 x12_1))) (ds:=[]) #[false,false,false,false,false,false,false,false,false,false,false,false,false,false] (by kernel_rfl) rfl rfl ⟨zx BK333 0,zx BK333 1,zx BK333 2,zx BK333 3,hx340_0⟩ (fun hHeld=>?_);refine with_tabW spec_l05Wins.tab8 spec_l05Wins.bits8 (fun HT_ HW_=>?_)
           generalize wc.drew=w29 at HO_3 HO_10 BK333 HK HB hx340_0 hHeld ⊢
           refine zP HT_ 1 (some 41) rfl rfl ?_
           refine zP HT_ 2 (some 42) rfl rfl ?_
           refine zP HT_ 3 (some 43) rfl rfl ?_
           refine zP HT_ 4 (some 44) rfl rfl ?_
           refine zP HT_ 7 (some 47) rfl rfl ?_
           refine zP HT_ 8 (some 48) rfl rfl ?_
           refine zP HT_ 9 (some 49) rfl rfl ?_
           refine zP HT_ 10 (some 50) rfl rfl ?_
           refine zT HT_ HW_ hHeld 0 (some 40) rfl rfl ?_
           refine zT HT_ HW_ hHeld 5 (some 45) rfl rfl ?_
           refine one_ (i:=6) (N:=some 46) #[true,true,true,true,true,true,true,true,true,true,true,false,false,false] rfl rfl (one_of HT_.1 (by kernel_rfl)) (by decide) (fun K hK=>?_)
           refine goes_ Tryz.func36 (by kernel_rfl) rfl #[.agg #[.int .i64 a0_0,.int .i64 a0_1,.int .i64 a0_2,.int .i64 a0_3],.int .i64 a2,.int .i64 (rd t337 x12_1)] (by rfl) rfl rfl zM ?_
           with_reducible refine (spec_l05Move.calls a0_0 a0_1 a0_2 a0_3 a2 (rd t337 x12_1) t341 t342 t343 t344 _ A27.1).mono ?_
           rintro e w31 ⟨rfl,hb⟩
           have HS4_:=(hb.cell (World.block_lt_of_cell? _ _ (hHeld.2.2.2.2))).trans (hHeld.2.2.2.2)
           refine ⟨_,rfl,?_⟩
           refine zA5 (Kd.R_below (zR HO_3.1) hb) (Kd.R_below (zR HO_10.1) hb) (zY BK333.1 hb) (Kept.below (S:=(fun k_=>P3_ k_)) (zK1 HK.1 GW333.1) hb) (below_step (zH1 HB.1 GE333.1) hb) ?_
           clear HO_3 HO_10 BK333 HK HB
           intro HO_3 HO_10 BK333 HK HB
           (try clear hb)
           (try clear hb2)
           (try clear hk)
           (try clear hi)
           refine hK.out _ _ ⟨zx BK333 0,zx BK333 1,zx BK333 2,zx BK333 3,HS4_⟩ (fun hHeld=>?_)
           clear hK K
           refine zW (some 46) ?_
           refine one_ (i:=11) (N:=some 51) #[true,true,true,true,true,true,true,true,true,true,true,true,false,false] rfl rfl (one_of HT_.1 (by kernel_rfl)) (by decide) (fun K hK=>?_)
           refine goes_ Tryz.func75 (by kernel_rfl) rfl #[.agg #[.int .i64 t341,.int .i64 t342,.int .i64 t343,.int .i64 t344],.int .i64 a1,.int .i64 (wrap64 (1-a2)),.slice (some ad335) x3_1.length co17] (by rfl) rfl rfl zM ?_
           with_reducible refine (ih kj19 (by have:=HK1.1;have:=HJ19.1;omega) t341 t342 t343 t344 a1 (wrap64 (1-a2)) (fun k_=>some k_=(.slice (some ad335) x3_1.length co17:Value).ownBlock) (.slice (some ad335) x3_1.length co17) x3_1 t345 t346 w0 _ ?side1 ?side2 A28.1).mono ?_
           (case side1=>exact zH1 HB.1 GE333.1)
           (case side2=>exact Kd.R_tight rfl HO_3.1)
           rintro e w32 ⟨rfl,hy0,hb,hkp⟩
           have HS4_:=cell_kept (hHeld.2.2.2.2) hkp (by first|(rw [add_block];exact (fun hs_=>((((Kd.R_apart' HO_10.1 (Kd.R_typed HO_3.1) (by decide))).1 _ rfl).2) hs_))|(show ¬ _;simp only [add_block];exact (fun hs_=>((((Kd.R_apart' HO_10.1 (Kd.R_typed HO_3.1) (by decide))).1 _ rfl).2) hs_))|exact (fun hs_=>((((Kd.R_apart' HO_10.1 (Kd.R_typed HO_3.1) (by decide))).1 _ rfl).2) hs_))
           refine ⟨_,rfl,?_⟩
           refine zA5 (Kd.R_reok rfl hy0 (fun k_ e_=>HO_3.1.1 k_ e_)) (Kd.R_mono (ok':=fun k_=>(P3_ k_∨w.heap.size≤k_)) (Kd.R_keptB ((Kd.R_apart' HO_10.1 (Kd.R_typed HO_3.1) (by decide))) hkp (fun k_ hk_ hs_=>(hk_.2) hs_)) (fun k_ hk_=>hk_.1.1)) (blk_kept (zB BK333.1) hkp (fun hs_=>(fun e_=>(Kd.R_ne HO_3.1 BK333.1 (by decide)) e_) hs_)) (Kept.then_ (S:=(fun k_=>P3_ k_)) (zK1 HK.1 GW333.1) hkp (fun k_ hs_=>(fun e_=>(HO_3.1.1 k_ e_.symm)) hs_)) (hb) ?_
           clear HO_3 HO_10 BK333 HK HB
           intro HO_3 HO_10 BK333 HK HB
           (try clear hb)
           (try clear hkp)
           (try clear hy0)
           refine hK.out _ _ ⟨zx BK333 0,zx BK333 1,zx BK333 2,zx BK333 3,HS4_⟩ (fun hHeld=>?_)
           clear hK K
           refine zW (some 51) ?_
           refine zP HT_ 12 (some 52) rfl rfl ?_
           refine zP HT_ 13 (some 11) rfl rfl ?_
           refine done_ (done_of HT_.1 (by kernel_rfl)) ?_
           try go_wp2
           (try simp only [← hl3_1])
           go_roundg kj19
           case measure=>have:=HK1.1;have:=HJ19.1;omega
           case rel=>exact ⟨(t346),(!t345),(wrap64 (x12_1+1)),(zF),(zF),H',⟨by have:=HK1.1;have:=HJ19.1;omega⟩,⟨by (try simp only [hl3_1]);exact zR HO_3.1⟩,⟨by (try simp only [hl3_1]);exact zR HO_10.1⟩,⟨by (try simp only [hl3_1]);exact zB BK333.1⟩,⟨zK1 HK.1 GW333.1⟩,⟨zH1 HB.1 GE333.1⟩⟩
          ·rw [if_neg c26] at H
           exact absurd H (by simp)
         ·rw [if_neg c25] at H
          exact absurd H (by simp)
        ·replace c24:=Bool.eq_false_iff.mpr c24
         subst c24
         have H1:(if 0≤t334 then (if t334<(x3_1.length:Int) then ((some (x3_1.set (t334:Int).toNat 1:List Int)).bind fun y347=>(if x11_1=true then (some (x11_1,(y347.set (t334:Int).toNat 2))) else (some (x11_1,y347)))) else (none)) else (none))=some (r1,r2):=by rw [if_neg (show ¬ (false=true) by decide)] at H;exact H
         clear H
         have H:=H1
         clear H1
         by_cases c33:0≤t334
         ·rw [if_pos c33] at H
          have c33b0:=decide_eq_true c33
          clear c33
          by_cases c34:t334<(x3_1.length:Int)
          ·rw [if_pos c34] at H
           have c34b0:=decide_eq_true c34
           clear c34
           obtain ⟨y347,hy347⟩:∃ y_:List Int,y_=(x3_1.set (t334:Int).toNat 1):=⟨_,rfl⟩
           replace H:(if x11_1=true then (some (x11_1,(y347.set (t334:Int).toNat 2))) else (some (x11_1,y347)))=some (r1,r2):=by first|(rw [hy347];with_reducible exact H)|(have H2_:=(Option.bind_some _ _).symm.trans H;rw [hy347];with_reducible exact H2_)|(have H2_:=(Option.bind_some _ _).symm.trans H;with_reducible exact H2_)|with_reducible exact H|(rw [hy347];exact H)|exact H
           have Ny347:=Aside0.mk hy347
           clear hy347
           by_cases c36:x11_1=true
           ·subst c36
            have H1:(some (true,(y347.set (t334:Int).toNat 2)))=some (r1,r2):=by rw [if_pos rfl] at H;exact H
            clear H
            have H:=H1
            clear H1
            obtain ⟨y348,hy348⟩:∃ y_:List Int,y_=(y347.set (t334:Int).toNat 2):=⟨_,rfl⟩
            replace H:(some (true,y348))=some (r1,r2):=by first|(rw [hy348];with_reducible exact H)|(have H2_:=(Option.bind_some _ _).symm.trans H;rw [hy348];with_reducible exact H2_)|(have H2_:=(Option.bind_some _ _).symm.trans H;with_reducible exact H2_)|with_reducible exact H|(rw [hy348];exact H)|exact H
            have Ny348:=Aside0.mk hy348
            clear hy348
            simp only [Option.some.injEq,Prod.mk.injEq] at H
            obtain ⟨rfl,rfl⟩:=H
            have p35:0≤(t334:Int):=zo
            have q35:(t334:Int)<((x3_1.length:Int):Int):=zo
            obtain ⟨go35,co35,eo35,gb35,gl35,cl35,HG35⟩:=Kd.R_form HO_3.1 (by omega)
            (first|cases eo35|(injection eo35 with ea_ en_ ec_;(first|subst ea_|(injection ea_ with ea_;subst ea_));subst ec_;clear en_))
            have GB35:=Aside0.mk gb35
            have GG35:=Aside0.mk HG35
            clear gb35 gl35 HG35
            have HMgo35:=Aside0.mk (show (P3_ go35∨w.heap.size≤go35) from (HO_3.1.1 _ rfl))
            (first|simp only [add_plain] at hx335_0|skip)
            (first|simp only [add_plain] at hx336_0|skip)
            obtain ⟨hx35_0,hf35_0⟩:=Kd.R_celln 0 HO_3.1 (t334:Int) p35 q35
            replace p35:=eq_true p35
            replace q35:=eq_true q35
            have HP38:=Kd.R_putg HO_3.1 (t334:Int) 1
            go_wp2_with (first|((with_reducible refine gate_store (t:=127) (p:=55) rfl ?_);refine store_event (t:=127) (p:=55) (v:=?vo_w39) (w1:=(wc.setCell ⟨go35,(t334:Int).toNat,none⟩ (.int .i8 1))) ?hg ?ho ?hn ?hr ?_;(case ho=>rfl);(case hg=>rfl);(case hn=>rfl);(case hr=>first|(go_simp;done)|(go_simp;rfl));intro w39 hw;have hg:wc.grownBy w39 (some go35):=(by rw [hw];exact HP38.2);have hp_:Kd.R (Kd.int .i8) 127 w39 w0.heap.size (fun k_=>(P3_ k_∨w.heap.size≤k_)) (.slice (some ⟨go35,0,none⟩) x3_1.length co17) y347:=(by rw [hw,Ny347.1];exact HP38.1);clear HP38;refine zA5 (hp_) (Kd.R_over' (v:=(.slice (some ⟨go35,0,none⟩) x3_1.length co17)) (zR HO_10.1) (Kd.R_typed HO_3.1) (by decide) hg) (blk_grown (g:=gb333) (o:=.cells #[.int .i64 a0_0,.int .i64 a0_1,.int .i64 a0_2,.int .i64 a0_3] 25 (0,0)) (zB BK333.1) hg (Kd.R_ne HO_3.1 BK333.1 (by decide))) ((by rw [hw];exact below_set (HB.1) GB35.1:Below w0.heap.size w0 w39)) (Kept.of_grown (S:=(fun k_=>P3_ k_)) hg (zK1 HK.1 GW333.1) (fun k_ e_=>(HO_3.1.1 k_ e_))) ?_;clear HO_3 HO_10 BK333 HB HK;intro HO_3 HO_10 BK333 HB HK;clear hg hw hp_;have p37:0≤(t334:Int):=zo;have q37:(t334:Int)<((x3_1.length:Int):Int):=zo;obtain ⟨hx37_0,hf37_0⟩:=Kd.R_celln 0 HO_3.1 (t334:Int) p37 q37;replace p37:=eq_true p37;replace q37:=eq_true q37;obtain ⟨hy40_,hz40_⟩:=Kd.R_celln 0 HO_3.1 (t334:Int) zo zo;have HP40:=Kd.R_putg HO_3.1 (t334:Int) 2)|((with_reducible refine gate_store (t:=127) (p:=59) rfl ?_);refine store_event (t:=127) (p:=59) (v:=?vo_w41) (w1:=(w39.setCell ⟨go35,(t334:Int).toNat,none⟩ (.int .i8 2))) ?hg ?ho ?hn ?hr ?_;(case ho=>rfl);(case hg=>rfl);(case hn=>rfl);(case hr=>first|(go_simp;done)|(go_simp;rfl));intro w41 hw;have hg:w39.grownBy w41 (some go35):=(by rw [hw];exact HP40.2);have hp_:Kd.R (Kd.int .i8) 127 w41 w0.heap.size (fun k_=>(P3_ k_∨w.heap.size≤k_)) (.slice (some ⟨go35,0,none⟩) x3_1.length co17) y348:=(by rw [hw,Ny348.1];exact HP40.1);clear HP40;refine zA5 (hp_) (Kd.R_over' (v:=(.slice (some ⟨go35,0,none⟩) x3_1.length co17)) (zR HO_10.1) (Kd.R_typed HO_3.1) (by decide) hg) (blk_grown (g:=gb333) (o:=.cells #[.int .i64 a0_0,.int .i64 a0_1,.int .i64 a0_2,.int .i64 a0_3] 25 (0,0)) (zB BK333.1) hg (Kd.R_ne HO_3.1 BK333.1 (by decide))) ((by rw [hw];exact below_set (HB.1) GB35.1:Below w0.heap.size w0 w41)) (Kept.of_grown (S:=(fun k_=>P3_ k_)) hg (zK1 HK.1 GW333.1) (fun k_ e_=>(HO_3.1.1 k_ e_))) ?_;clear HO_3 HO_10 BK333 HB HK;intro HO_3 HO_10 BK333 HB HK;clear hg hw hp_))
            go_ret
            exact ⟨zE,(by first|exact (zR HO_3.1)|(simp only [hl3_1];exact (zR HO_3.1))),zH1 HB.1 GE333.1,zK1 HK.1 GW333.1⟩
           ·replace c36:=Bool.eq_false_iff.mpr c36
            subst c36
            have H1:(some (false,y347))=some (r1,r2):=by rw [if_neg (show ¬ (false=true) by decide)] at H;exact H
            clear H
            have H:=H1
            clear H1
            simp only [Option.some.injEq,Prod.mk.injEq] at H
            obtain ⟨rfl,rfl⟩:=H
            have p35:0≤(t334:Int):=zo
            have q35:(t334:Int)<((x3_1.length:Int):Int):=zo
            obtain ⟨go35,co35,eo35,gb35,gl35,cl35,HG35⟩:=Kd.R_form HO_3.1 (by omega)
            (first|cases eo35|(injection eo35 with ea_ en_ ec_;(first|subst ea_|(injection ea_ with ea_;subst ea_));subst ec_;clear en_))
            have GB35:=Aside0.mk gb35
            have GG35:=Aside0.mk HG35
            clear gb35 gl35 HG35
            have HMgo35:=Aside0.mk (show (P3_ go35∨w.heap.size≤go35) from (HO_3.1.1 _ rfl))
            obtain ⟨hx35_0,hf35_0⟩:=Kd.R_celln 0 HO_3.1 (t334:Int) p35 q35
            replace p35:=eq_true p35
            replace q35:=eq_true q35
            have HP42:=Kd.R_putg HO_3.1 (t334:Int) 1
            go_wp2_with (first|((with_reducible refine gate_store (t:=127) (p:=55) rfl ?_);refine store_event (t:=127) (p:=55) (v:=?vo_w43) (w1:=(wc.setCell ⟨go35,(t334:Int).toNat,none⟩ (.int .i8 1))) ?hg ?ho ?hn ?hr ?_;(case ho=>rfl);(case hg=>rfl);(case hn=>rfl);(case hr=>first|(go_simp;done)|(go_simp;rfl));intro w43 hw;have hg:wc.grownBy w43 (some go35):=(by rw [hw];exact HP42.2);have hp_:Kd.R (Kd.int .i8) 127 w43 w0.heap.size (fun k_=>(P3_ k_∨w.heap.size≤k_)) (.slice (some ⟨go35,0,none⟩) x3_1.length co17) y347:=(by rw [hw,Ny347.1];exact HP42.1);clear HP42;refine zA5 (hp_) (Kd.R_over' (v:=(.slice (some ⟨go35,0,none⟩) x3_1.length co17)) (zR HO_10.1) (Kd.R_typed HO_3.1) (by decide) hg) (blk_grown (g:=gb333) (o:=.cells #[.int .i64 a0_0,.int .i64 a0_1,.int .i64 a0_2,.int .i64 a0_3] 25 (0,0)) (zB BK333.1) hg (Kd.R_ne HO_3.1 BK333.1 (by decide))) ((by rw [hw];exact below_set (HB.1) GB35.1:Below w0.heap.size w0 w43)) (Kept.of_grown (S:=(fun k_=>P3_ k_)) hg (zK1 HK.1 GW333.1) (fun k_ e_=>(HO_3.1.1 k_ e_))) ?_;clear HO_3 HO_10 BK333 HB HK;intro HO_3 HO_10 BK333 HB HK;clear hg hw hp_))
            go_ret
            exact ⟨zE,(by first|exact (zR HO_3.1)|(simp only [hl3_1];exact (zR HO_3.1))),zH1 HB.1 GE333.1,zK1 HK.1 GW333.1⟩
          ·rw [if_neg c34] at H
           exact absurd H (by simp)
         ·rw [if_neg c33] at H
          exact absurd H (by simp)
  ·rw [if_neg c7] at H
   exact absurd H (by simp)
 ·rw [if_neg c6] at H
  exact absurd H (by simp)
def spec_l05Best.l0:Nat→Int→Int→List Int→List Int→List Int→Int→Int→Int→Int→Int→Option (List Int×List Int)
 |0,_,_,_,_,_,_,_,_,_,_=>none
 |k+1,x1,x2,x3,x9,x10,x11,x350000,x350001,x350002,x350003=>if x11<(x9.length:Int) then (if 0≤x11 then ((spec_l05Move.f x350000 x350001 x350002 x350003 x2 (rd x9 x11)).bind fun bt357=>((spec_l05Wins.f k bt357.1 bt357.2.1 bt357.2.2.1 bt357.2.2.2 x1 (wrap64 (1-x2)) x3).bind fun bt361=>(if bt361.1=true then (spec_l05Best.l0 k x1 x2 bt361.2 x9 x10 (wrap64 (x11+1)) x350000 x350001 x350002 x350003) else (if x10.length<17592186044416 then (spec_l05Best.l0 k x1 x2 bt361.2 x9 (x10++[rd x9 x11]) (wrap64 (x11+1)) x350000 x350001 x350002 x350003) else (none))))) else (none)) else (some (x10,x3))
def spec_l05Best.f (k:Nat) (a0_0:Int) (a0_1:Int) (a0_2:Int) (a0_3:Int) (a1:Int) (a2:Int) (l3:List Int):Option (List Int×List Int):=(spec_l05Points.f k a0_0 a0_1 a0_2 a0_3 a1 a2).bind fun t350=>(spec_l05Best.l0 k a1 a2 l3 t350 (([]:List Int)) 0 a0_0 a0_1 a0_2 a0_3)
def spec_l05Best.T5:Bool×List (List Nat×List Nat):=(true,[([],[]),([],[]),([],[]),([],[]),([2,3],[2,3]),([4],[4]),([0,1,5],[0,1,5]),([],[]),([],[]),([8],[8]),([],[]),([6,7,9,10,6],[6,7,9,10]),([11],[11])])
def spec_l05Best.B5:List Nat:=[0,0,0,0,12,28,63,0,0,256,0,2047,4095]
theorem spec_l05Best.tab5:rtab .any (opsOf Tryz.f34 5)=spec_l05Best.T5:=by kernel_rfl
theorem spec_l05Best.bits5:waitsOk spec_l05Best.T5.2 spec_l05Best.B5=true:=by kernel_rfl
theorem spec_l05Best.calls (k:Nat) (a0_0:Int) (a0_1:Int) (a0_2:Int) (a0_3:Int) (a1:Int) (a2:Int) (P3_:Nat→Prop) (u9000_:Value) (l3:List Int) (r1:List Int) (r2:List Int) (w0 w:World) (hB:Below w0.heap.size w0 w) (ho3:Kd.R (Kd.int .i8) 127 w w0.heap.size P3_ u9000_ l3) (h:spec_l05Best.f k a0_0 a0_1 a0_2 a0_3 a1 a2 l3=some (r1,r2)):
 Calls Tryz.prog 34 #[.agg #[.int .i64 a0_0,.int .i64 a0_1,.int .i64 a0_2,.int .i64 a0_3],.int .i64 a1,.int .i64 a2,u9000_] w fun e w'=>∃ v0_:Value,e=.returned (v0_)∧Kd.R (Kd.int .i64) 2 w' w0.heap.size (fun k_=>(P3_ k_∨w.heap.size≤k_)) v0_ r1∧Kd.R (Kd.int .i8) 127 w' w0.heap.size (fun k_=>(P3_ k_∨w.heap.size≤k_)) u9000_ r2∧Below w0.heap.size w0 w'∧Kept w w' (fun k_=>P3_ k_):=by
 have hu25:=Tryz.underlying25
 have HO3:=Aside0.mk (show Kd.R (Kd.int .i8) 127 w w0.heap.size (fun k_=>(P3_ k_∨w.heap.size≤k_)) u9000_ l3 from Kd.R_mono ho3 (fun k_ hk=>(.inl hk)))
 have HK:=Aside0.mk (Kept.refl w (fun k_=>P3_ k_))
 have HW0:=Aside0.mk hB.size
 have HB:=Aside0.mk hB
 clear hB
 have H:((spec_l05Points.f k a0_0 a0_1 a0_2 a0_3 a1 a2).bind fun t350=>(spec_l05Best.l0 k a1 a2 l3 t350 (([]:List Int)) 0 a0_0 a0_1 a0_2 a0_3))=some (r1,r2):=h
 clear h
 obtain ⟨t350,A5,H⟩:=zb H
 obtain ⟨y353,hy353⟩:∃ y_:List Int,y_=(([]:List Int)):=⟨_,rfl⟩
 replace H:(spec_l05Best.l0 k a1 a2 l3 t350 y353 0 a0_0 a0_1 a0_2 a0_3)=some (r1,r2):=by first|(rw [hy353];with_reducible exact H)|(have H2_:=(Option.bind_some _ _).symm.trans H;rw [hy353];with_reducible exact H2_)|(have H2_:=(Option.bind_some _ _).symm.trans H;with_reducible exact H2_)|with_reducible exact H|(rw [hy353];exact H)|exact H
 have Ny353:=Aside0.mk hy353
 clear hy353
 have H':=Aside0.mk H
 clear H
 go_enter Tryz.func34,Tryz.ntmps34
 go_wp2_with (first|((with_reducible refine gate_dst (N:=4) rfl ?_);refine zX 4 #[.int .i64 a0_0,.int .i64 a0_1,.int .i64 a0_2,.int .i64 a0_3] 25 ?_;intro gb349 hg w6 hbox hb;refine zA6 (Kd.R_below (zR HO3.1) hb) (Kept.below (S:=(fun k_=>P3_ k_)) (zK HK.1) hb) (below_step (zH HB.1) hb) (hbox) ((by rw [hg];exact (by first|exact HK.1.1|exact (show Kept w _ (fun k_=>P3_ k_) from zK HK.1).1):w.heap.size≤gb349)) ((zS hg (below_size (zH HB.1)):w0.heap.size≤gb349)) ?_;clear HO3 HK HB;intro HO3 HK HB BK349 GW349 GE349;clear hb hbox hg;obtain ⟨Z7_0,Z7_1,Z7_2,Z7_3⟩:=zc4 BK349;obtain ⟨V7_0,V7_1,V7_2,V7_3⟩:=zf4 BK349)|((with_reducible refine gate_callee (f:=35) rfl ?_);refine zL (some 15) Tryz.func35 #[.agg #[.int .i64 a0_0,.int .i64 a0_1,.int .i64 a0_2,.int .i64 a0_3],.int .i64 a1,.int .i64 a2] ?_;(with_reducible refine (spec_l05Points.calls k a0_0 a0_1 a0_2 a0_3 a1 a2 t350 _ A5.1).mono ?_);rintro e w8 ⟨v351,rfl,ho0,hb⟩;refine ⟨_,rfl,?_⟩;refine zA5 (Kd.R_below (zR HO3.1) hb) (Kd.R_lower (Kd.R_newM (M:=fun k_=>(P3_ k_∨w.heap.size≤k_)) ho0 (by first|exact HK.1.1|exact (show Kept w _ (fun k_=>P3_ k_) from zK1 HK.1 GW349.1).1) (fun k_ h_=>.inr h_)) (below_size (zH1 HB.1 GE349.1))) (zY BK349.1 hb) (Kept.below (S:=(fun k_=>P3_ k_)) (zK1 HK.1 GW349.1) hb) (below_step (zH1 HB.1 GE349.1) hb) ?_;clear HO3 BK349 HK HB;intro HO3 HO352 BK349 HK HB;(try clear hb);(try clear hk);(try clear ho0))|((with_reducible refine gate_dst (N:=16) rfl ?_);refine Kd.R_lit (Kd.int .i64) _ 2 ?hg (N:=16) ?hd (xs:=([]:List Int)) (inner:=[]) (ok:=fun _=>True) (okp:=fun _=>True) ?hr ?hp (fun _ hk=>hk) trivial (Below.refl _ _) (Nat.le_refl _) (by simp) ?_;(case hd=>rfl);(case hg=>rfl);(case hr=>first|(go_simp;done)|(go_simp;rfl));(case hp=>exact (Reps.none _ _));intro v354 w9 ho10 hb hg_ hnew_;clear hg_ hnew_;(first|rw [← Ny353.1] at ho10|(simp only [Int.reduceToNat] at ho10;rw [← Ny353.1] at ho10));refine zA6 (Kd.R_below (zR HO3.1) hb) (Kd.R_elder' (zR HO352.1) (Kd.R_base ho10) hb) (Kd.R_lower (Kd.R_new' (Kd.R_newM (M:=fun k_=>(P3_ k_∨w.heap.size≤k_)) ho10 (by first|exact HK.1.1|exact (show Kept w _ (fun k_=>P3_ k_) from zK1 HK.1 GW349.1).1) (fun k_ h_=>.inr h_)) (Kd.R_lt (zR HO352.1))) (below_size (zH1 HB.1 GE349.1))) (zY BK349.1 hb) (Kept.below (S:=(fun k_=>P3_ k_)) (zK1 HK.1 GW349.1) hb) (below_step (zH1 HB.1 GE349.1) hb) ?_;clear HO3 HO352 BK349 HK HB;intro HO3 HO352 HO355 BK349 HK HB;clear hb ho10))
 go_loopg [10,11] k (fun kq v10 v11 w'=>∃ (x3_1:List Int) (x10_1:List Int) (x11_1:Int),v11=.int .i64 x11_1∧Aside0 (spec_l05Best.l0 kq a1 a2 x3_1 t350 x10_1 x11_1 a0_0 a0_1 a0_2 a0_3=some (r1,r2))∧Aside0 (kq≤k)∧Aside0 (Kd.R (Kd.int .i8) 127 w' w0.heap.size (fun k_=>(P3_ k_∨w.heap.size≤k_)) u9000_ x3_1)∧Aside0 (Kd.R (Kd.int .i64) 2 w' w0.heap.size (fun k_=>(P3_ k_∨w.heap.size≤k_)∧some k_≠(v10:Value).ownBlock) v351 t350)∧Aside0 (Kd.R (Kd.int .i64) 2 w' w0.heap.size (fun k_=>(P3_ k_∨w.heap.size≤k_)∧some k_≠(v351:Value).ownBlock) v10 x10_1)∧Aside0 (w'.heap[gb349]?=some (.cells #[.int .i64 a0_0,.int .i64 a0_1,.int .i64 a0_2,.int .i64 a0_3] 25 (0,0)))∧Aside0 (Kept w w' (fun k_=>P3_ k_))∧Aside0 (Below w0.heap.size w0 w'))
 case atStart=>exact ⟨(l3),(y353),(0),(zF),H',⟨Nat.le_refl _⟩,⟨zR HO3.1⟩,⟨zRm HO352.1 (fun _ hk=>⟨hk.1.1,hk.2⟩)⟩,⟨zRm HO355.1 (fun _ hk=>⟨hk.1.1,hk.2⟩)⟩,⟨zB BK349.1⟩,⟨zK1 HK.1 GW349.1⟩,⟨zH1 HB.1 GE349.1⟩⟩
 case round=>
  clear H'
  try clear p2
  try clear c3
  try clear Z7_0 Z7_1 Z7_2 Z7_3 V7_0 V7_1 V7_2 V7_3
  obtain ⟨x3_1,x10_1,x11_1,rfl,HA,HK1,HO_3,HO_9,HO_10,BK349,HK,HB⟩:=hrel
  cases gk with
  |zero=>exact absurd HA.1 (by simp [spec_l05Best.l0])
  |succ k1=>
   have H:=HA.1
   clear HA
   simp only [spec_l05Best.l0] at H
   by_cases c11:x11_1<(t350.length:Int)
   ·rw [if_pos c11] at H
    have c11b0:=decide_eq_true c11
    clear c11
    by_cases c12:0≤x11_1
    ·rw [if_pos c12] at H
     have c12b0:=decide_eq_true c12
     clear c12
     obtain ⟨⟨t357,t358,t359,t360⟩,A13,H⟩:=zb H;(try dsimp only at H)
     obtain ⟨⟨t361,t362⟩,A14,H⟩:=zb H;(try dsimp only at H)
     by_cases c15:t361=true
     ·subst c15
      have H1:(spec_l05Best.l0 k1 a1 a2 t362 t350 x10_1 (wrap64 (x11_1+1)) a0_0 a0_1 a0_2 a0_3)=some (r1,r2):=by rw [if_pos rfl] at H;exact H
      clear H
      have H:=H1
      clear H1
      have H':=Aside0.mk H
      clear H
      obtain ⟨Ao16,co16,eo16⟩:=Kd.R_slice HO_9.1
      subst eo16
      try go_wp2
      refine zA6 (Kd.R_drew HO_3.1) (Kd.R_drew HO_9.1) (Kd.R_drew HO_10.1) (blk_drew BK349.1) (Kept.drew HK.1) (below_drew1 HB.1) ?_
      clear HO_3 HO_9 HO_10 BK349 HK HB
      intro HO_3 HO_9 HO_10 BK349 HK HB
      have p356:0≤(x11_1:Int):=zo
      have q356:x11_1<(t350.length:Int):=zo
      obtain ⟨ad356,e356,hx356_0⟩:=Kd.at_int (Kd.R_reads' HO_9.1).2.2 x11_1 p356 q356
      cases e356
      replace p356:=eq_true p356
      replace q356:=eq_true q356
      refine start_ (n:=13) (S:=fun w'=>w'.cell? ⟨gb349,0,none⟩=some (.int .i64 a0_0)∧w'.cell? ⟨gb349,1,none⟩=some (.int .i64 a0_1)∧w'.cell? ⟨gb349,2,none⟩=some (.int .i64 a0_2)∧w'.cell? ⟨gb349,3,none⟩=some (.int .i64 a0_3)∧w'.cell? (ad356.add (x11_1).toNat)=some (.int .i64 (rd t350 x11_1))) (ds:=[]) #[false,false,false,false,false,false,false,false,false,false,false,false,false] (by kernel_rfl) rfl rfl ⟨zx BK349 0,zx BK349 1,zx BK349 2,zx BK349 3,hx356_0⟩ (fun hHeld=>?_);refine with_tabW spec_l05Best.tab5 spec_l05Best.bits5 (fun HT_ HW_=>?_)
      generalize wr.drew=w17 at HO_3 HO_9 HO_10 BK349 HK HB hx356_0 hHeld ⊢
      refine zP HT_ 1 (some 24) rfl rfl ?_
      refine zP HT_ 2 (some 25) rfl rfl ?_
      refine zP HT_ 3 (some 26) rfl rfl ?_
      refine zP HT_ 4 (some 27) rfl rfl ?_
      refine zP HT_ 7 (some 30) rfl rfl ?_
      refine zP HT_ 8 (some 31) rfl rfl ?_
      refine zP HT_ 9 (some 32) rfl rfl ?_
      refine zP HT_ 10 (some 33) rfl rfl ?_
      refine zT HT_ HW_ hHeld 0 (some 23) rfl rfl ?_
      refine zT HT_ HW_ hHeld 5 (some 28) rfl rfl ?_
      refine one_ (i:=6) (N:=some 29) #[true,true,true,true,true,true,true,true,true,true,true,false,false] rfl rfl (one_of HT_.1 (by kernel_rfl)) (by decide) (fun K hK=>?_)
      refine goes_ Tryz.func36 (by kernel_rfl) rfl #[.agg #[.int .i64 a0_0,.int .i64 a0_1,.int .i64 a0_2,.int .i64 a0_3],.int .i64 a2,.int .i64 (rd t350 x11_1)] (by rfl) rfl rfl zM ?_
      with_reducible refine (spec_l05Move.calls a0_0 a0_1 a0_2 a0_3 a2 (rd t350 x11_1) t357 t358 t359 t360 _ A13.1).mono ?_
      rintro e w18 ⟨rfl,hb⟩
      have HS4_:=(hb.cell (World.block_lt_of_cell? _ _ (hHeld.2.2.2.2))).trans (hHeld.2.2.2.2)
      refine ⟨_,rfl,?_⟩
      refine zA6 (Kd.R_below (zR HO_3.1) hb) (Kd.R_below (zR HO_9.1) hb) (Kd.R_below (zR HO_10.1) hb) (zY BK349.1 hb) (Kept.below (S:=(fun k_=>P3_ k_)) (zK1 HK.1 GW349.1) hb) (below_step (zH1 HB.1 GE349.1) hb) ?_
      clear HO_3 HO_9 HO_10 BK349 HK HB
      intro HO_3 HO_9 HO_10 BK349 HK HB
      (try clear hb)
      (try clear hb2)
      (try clear hk)
      (try clear hi)
      obtain ⟨Ao19,co19,eo19⟩:=Kd.R_slice HO_3.1
      (first|subst eo19|(injection eo19 with f1_ f2_ f3_;have f4_:=f1_.symm;have f5_:=f3_.symm;clear f1_ f2_ f3_;subst f4_;subst f5_))
      refine hK.out _ _ ⟨zx BK349 0,zx BK349 1,zx BK349 2,zx BK349 3,HS4_⟩ (fun hHeld=>?_)
      clear hK K
      refine zW (some 29) ?_
      refine one_ (i:=11) (N:=some 34) #[true,true,true,true,true,true,true,true,true,true,true,true,false] rfl rfl (one_of HT_.1 (by kernel_rfl)) (by decide) (fun K hK=>?_)
      refine goes_ Tryz.func75 (by kernel_rfl) rfl #[.agg #[.int .i64 t357,.int .i64 t358,.int .i64 t359,.int .i64 t360],.int .i64 a1,.int .i64 (wrap64 (1-a2)),.slice Ao19 x3_1.length co19] (by rfl) rfl rfl zM ?_
      with_reducible refine (spec_l05Wins.calls k1 t357 t358 t359 t360 a1 (wrap64 (1-a2)) (fun k_=>some k_=(.slice Ao19 x3_1.length co19:Value).ownBlock) (.slice Ao19 x3_1.length co19) x3_1 true t362 w0 _ ?side1 ?side2 A14.1).mono ?_
      (case side1=>exact zH1 HB.1 GE349.1)
      (case side2=>exact Kd.R_tight rfl HO_3.1)
      rintro e w20 ⟨rfl,hy0,hb,hkp⟩
      have HS4_:=cell_kept (hHeld.2.2.2.2) hkp (by first|(rw [add_block];exact (fun hs_=>((((Kd.R_apart' HO_9.1 (Kd.R_typed HO_3.1) (by decide))).1 _ rfl).2) hs_))|(show ¬ _;simp only [add_block];exact (fun hs_=>((((Kd.R_apart' HO_9.1 (Kd.R_typed HO_3.1) (by decide))).1 _ rfl).2) hs_))|exact (fun hs_=>((((Kd.R_apart' HO_9.1 (Kd.R_typed HO_3.1) (by decide))).1 _ rfl).2) hs_))
      refine ⟨_,rfl,?_⟩
      refine zA6 (Kd.R_reok rfl hy0 (fun k_ e_=>HO_3.1.1 k_ e_)) (Kd.R_mono (ok':=fun k_=>(P3_ k_∨w.heap.size≤k_)∧some k_≠(u10:Value).ownBlock) (Kd.R_keptB ((Kd.R_apart' HO_9.1 (Kd.R_typed HO_3.1) (by decide))) hkp (fun k_ hk_ hs_=>(hk_.2) hs_)) (fun k_ hk_=>⟨hk_.1.1.1,hk_.1.1.2⟩)) (Kd.R_mono (ok':=fun k_=>(P3_ k_∨w.heap.size≤k_)∧some k_≠(.slice (some ad356) t350.length co16:Value).ownBlock) (Kd.R_keptB ((Kd.R_apart' HO_10.1 (Kd.R_typed HO_3.1) (by decide))) hkp (fun k_ hk_ hs_=>(hk_.2) hs_)) (fun k_ hk_=>⟨hk_.1.1.1,hk_.1.1.2⟩)) (blk_kept (zB BK349.1) hkp (fun hs_=>(fun e_=>(Kd.R_ne HO_3.1 BK349.1 (by decide)) e_) hs_)) (Kept.then_ (S:=(fun k_=>P3_ k_)) (zK1 HK.1 GW349.1) hkp (fun k_ hs_=>(fun e_=>(HO_3.1.1 k_ e_.symm)) hs_)) (hb) ?_
      clear HO_3 HO_9 HO_10 BK349 HK HB
      intro HO_3 HO_9 HO_10 BK349 HK HB
      (try clear hb)
      (try clear hkp)
      (try clear hy0)
      refine hK.out _ _ ⟨zx BK349 0,zx BK349 1,zx BK349 2,zx BK349 3,HS4_⟩ (fun hHeld=>?_)
      clear hK K
      refine zW (some 34) ?_
      refine zP HT_ 12 (some 35) rfl rfl ?_
      refine done_ (done_of HT_.1 (by kernel_rfl)) ?_
      try go_wp2
      go_roundg k1
      case measure=>have:=HK1.1;omega
      case rel=>exact ⟨(t362),(x10_1),(wrap64 (x11_1+1)),(zF),H',⟨by have:=HK1.1;omega⟩,⟨zR HO_3.1⟩,⟨zR HO_9.1⟩,⟨zR HO_10.1⟩,⟨zB BK349.1⟩,⟨zK1 HK.1 GW349.1⟩,⟨zH1 HB.1 GE349.1⟩⟩
     ·replace c15:=Bool.eq_false_iff.mpr c15
      subst c15
      have H1:(if x10_1.length<17592186044416 then (spec_l05Best.l0 k1 a1 a2 t362 t350 (x10_1++[rd t350 x11_1]) (wrap64 (x11_1+1)) a0_0 a0_1 a0_2 a0_3) else (none))=some (r1,r2):=by rw [if_neg (show ¬ (false=true) by decide)] at H;exact H
      clear H
      have H:=H1
      clear H1
      by_cases c21:x10_1.length<17592186044416
      ·rw [if_pos c21] at H
       have LMc21:=Aside0.mk c21
       clear c21
       obtain ⟨y364,hy364⟩:∃ y_:List Int,y_=(x10_1++[rd t350 x11_1]):=⟨_,rfl⟩
       replace H:(spec_l05Best.l0 k1 a1 a2 t362 t350 y364 (wrap64 (x11_1+1)) a0_0 a0_1 a0_2 a0_3)=some (r1,r2):=by first|(rw [hy364];with_reducible exact H)|(have H2_:=(Option.bind_some _ _).symm.trans H;rw [hy364];with_reducible exact H2_)|(have H2_:=(Option.bind_some _ _).symm.trans H;with_reducible exact H2_)|with_reducible exact H|(rw [hy364];exact H)|exact H
       have Ny364:=Aside0.mk hy364
       clear hy364
       have H':=Aside0.mk H
       clear H
       obtain ⟨Ao22,co22,eo22⟩:=Kd.R_slice HO_9.1
       subst eo22
       try go_wp2
       refine zA6 (Kd.R_drew HO_3.1) (Kd.R_drew HO_9.1) (Kd.R_drew HO_10.1) (blk_drew BK349.1) (Kept.drew HK.1) (below_drew1 HB.1) ?_
       clear HO_3 HO_9 HO_10 BK349 HK HB
       intro HO_3 HO_9 HO_10 BK349 HK HB
       have p356:0≤(x11_1:Int):=zo
       have q356:x11_1<(t350.length:Int):=zo
       obtain ⟨ad356,e356,hx356_0⟩:=Kd.at_int (Kd.R_reads' HO_9.1).2.2 x11_1 p356 q356
       cases e356
       replace p356:=eq_true p356
       replace q356:=eq_true q356
       refine start_ (n:=13) (S:=fun w'=>w'.cell? ⟨gb349,0,none⟩=some (.int .i64 a0_0)∧w'.cell? ⟨gb349,1,none⟩=some (.int .i64 a0_1)∧w'.cell? ⟨gb349,2,none⟩=some (.int .i64 a0_2)∧w'.cell? ⟨gb349,3,none⟩=some (.int .i64 a0_3)∧w'.cell? (ad356.add (x11_1).toNat)=some (.int .i64 (rd t350 x11_1))) (ds:=[]) #[false,false,false,false,false,false,false,false,false,false,false,false,false] (by kernel_rfl) rfl rfl ⟨zx BK349 0,zx BK349 1,zx BK349 2,zx BK349 3,hx356_0⟩ (fun hHeld=>?_);refine with_tabW spec_l05Best.tab5 spec_l05Best.bits5 (fun HT_ HW_=>?_)
       generalize wr.drew=w23 at HO_3 HO_9 HO_10 BK349 HK HB hx356_0 hHeld ⊢
       refine zP HT_ 1 (some 24) rfl rfl ?_
       refine zP HT_ 2 (some 25) rfl rfl ?_
       refine zP HT_ 3 (some 26) rfl rfl ?_
       refine zP HT_ 4 (some 27) rfl rfl ?_
       refine zP HT_ 7 (some 30) rfl rfl ?_
       refine zP HT_ 8 (some 31) rfl rfl ?_
       refine zP HT_ 9 (some 32) rfl rfl ?_
       refine zP HT_ 10 (some 33) rfl rfl ?_
       refine zT HT_ HW_ hHeld 0 (some 23) rfl rfl ?_
       refine zT HT_ HW_ hHeld 5 (some 28) rfl rfl ?_
       refine one_ (i:=6) (N:=some 29) #[true,true,true,true,true,true,true,true,true,true,true,false,false] rfl rfl (one_of HT_.1 (by kernel_rfl)) (by decide) (fun K hK=>?_)
       refine goes_ Tryz.func36 (by kernel_rfl) rfl #[.agg #[.int .i64 a0_0,.int .i64 a0_1,.int .i64 a0_2,.int .i64 a0_3],.int .i64 a2,.int .i64 (rd t350 x11_1)] (by rfl) rfl rfl zM ?_
       with_reducible refine (spec_l05Move.calls a0_0 a0_1 a0_2 a0_3 a2 (rd t350 x11_1) t357 t358 t359 t360 _ A13.1).mono ?_
       rintro e w24 ⟨rfl,hb⟩
       have HS4_:=(hb.cell (World.block_lt_of_cell? _ _ (hHeld.2.2.2.2))).trans (hHeld.2.2.2.2)
       refine ⟨_,rfl,?_⟩
       refine zA6 (Kd.R_below (zR HO_3.1) hb) (Kd.R_below (zR HO_9.1) hb) (Kd.R_below (zR HO_10.1) hb) (zY BK349.1 hb) (Kept.below (S:=(fun k_=>P3_ k_)) (zK1 HK.1 GW349.1) hb) (below_step (zH1 HB.1 GE349.1) hb) ?_
       clear HO_3 HO_9 HO_10 BK349 HK HB
       intro HO_3 HO_9 HO_10 BK349 HK HB
       (try clear hb)
       (try clear hb2)
       (try clear hk)
       (try clear hi)
       obtain ⟨Ao25,co25,eo25⟩:=Kd.R_slice HO_3.1
       (first|subst eo25|(injection eo25 with f1_ f2_ f3_;have f4_:=f1_.symm;have f5_:=f3_.symm;clear f1_ f2_ f3_;subst f4_;subst f5_))
       refine hK.out _ _ ⟨zx BK349 0,zx BK349 1,zx BK349 2,zx BK349 3,HS4_⟩ (fun hHeld=>?_)
       clear hK K
       refine zW (some 29) ?_
       refine one_ (i:=11) (N:=some 34) #[true,true,true,true,true,true,true,true,true,true,true,true,false] rfl rfl (one_of HT_.1 (by kernel_rfl)) (by decide) (fun K hK=>?_)
       refine goes_ Tryz.func75 (by kernel_rfl) rfl #[.agg #[.int .i64 t357,.int .i64 t358,.int .i64 t359,.int .i64 t360],.int .i64 a1,.int .i64 (wrap64 (1-a2)),.slice Ao25 x3_1.length co25] (by rfl) rfl rfl zM ?_
       with_reducible refine (spec_l05Wins.calls k1 t357 t358 t359 t360 a1 (wrap64 (1-a2)) (fun k_=>some k_=(.slice Ao25 x3_1.length co25:Value).ownBlock) (.slice Ao25 x3_1.length co25) x3_1 false t362 w0 _ ?side1 ?side2 A14.1).mono ?_
       (case side1=>exact zH1 HB.1 GE349.1)
       (case side2=>exact Kd.R_tight rfl HO_3.1)
       rintro e w26 ⟨rfl,hy0,hb,hkp⟩
       have HS4_:=cell_kept (hHeld.2.2.2.2) hkp (by first|(rw [add_block];exact (fun hs_=>((((Kd.R_apart' HO_9.1 (Kd.R_typed HO_3.1) (by decide))).1 _ rfl).2) hs_))|(show ¬ _;simp only [add_block];exact (fun hs_=>((((Kd.R_apart' HO_9.1 (Kd.R_typed HO_3.1) (by decide))).1 _ rfl).2) hs_))|exact (fun hs_=>((((Kd.R_apart' HO_9.1 (Kd.R_typed HO_3.1) (by decide))).1 _ rfl).2) hs_))
       refine ⟨_,rfl,?_⟩
       refine zA6 (Kd.R_reok rfl hy0 (fun k_ e_=>HO_3.1.1 k_ e_)) (Kd.R_mono (ok':=fun k_=>(P3_ k_∨w.heap.size≤k_)∧some k_≠(u10:Value).ownBlock) (Kd.R_keptB ((Kd.R_apart' HO_9.1 (Kd.R_typed HO_3.1) (by decide))) hkp (fun k_ hk_ hs_=>(hk_.2) hs_)) (fun k_ hk_=>⟨hk_.1.1.1,hk_.1.1.2⟩)) (Kd.R_mono (ok':=fun k_=>(P3_ k_∨w.heap.size≤k_)∧some k_≠(.slice (some ad356) t350.length co22:Value).ownBlock) (Kd.R_keptB ((Kd.R_apart' HO_10.1 (Kd.R_typed HO_3.1) (by decide))) hkp (fun k_ hk_ hs_=>(hk_.2) hs_)) (fun k_ hk_=>⟨hk_.1.1.1,hk_.1.1.2⟩)) (blk_kept (zB BK349.1) hkp (fun hs_=>(fun e_=>(Kd.R_ne HO_3.1 BK349.1 (by decide)) e_) hs_)) (Kept.then_ (S:=(fun k_=>P3_ k_)) (zK1 HK.1 GW349.1) hkp (fun k_ hs_=>(fun e_=>(HO_3.1.1 k_ e_.symm)) hs_)) (hb) ?_
       clear HO_3 HO_9 HO_10 BK349 HK HB
       intro HO_3 HO_9 HO_10 BK349 HK HB
       (try clear hb)
       (try clear hkp)
       (try clear hy0)
       refine hK.out _ _ ⟨zx BK349 0,zx BK349 1,zx BK349 2,zx BK349 3,HS4_⟩ (fun hHeld=>?_)
       clear hK K
       refine zW (some 34) ?_
       refine zP HT_ 12 (some 35) rfl rfl ?_
       refine done_ (done_of HT_.1 (by kernel_rfl)) ?_
       have p363:0≤(x11_1:Int):=zo
       have q363:x11_1<(t350.length:Int):=zo
       obtain ⟨ad363,e363,hx363_0⟩:=Kd.at_int (Kd.R_reads' HO_9.1).2.2 x11_1 p363 q363
       obtain rfl:ad356=ad363:=(by injection e363)
       replace p363:=eq_true p363
       replace q363:=eq_true q363
       try go_wp2_with (first|((with_reducible refine gate_builtin (b:=.append) (xs:=#[.tmp 36,.tmp 41]) rfl ?_);at_builtin;refine Kd.R_append (Kd.int .i64) (w0:=w0) w0.heap.size rfl (.tmp 36) (.tmp 41) 28 2 (.int .i64 0) 8 rfl Tryz.underlying28 info2 rfl (by decide) (by omega) u10 x10_1 (rd t350 x11_1) [.int .i64 (rd t350 x11_1)] (fun k_=>(P3_ k_∨w.heap.size≤k_)∧some k_≠(.slice (some ad356) t350.length co22:Value).ownBlock) (fun _=>False) rfl rfl ?aP (fun _ hk=>hk.elim) ?aF ?aO ?aB ?aS ?aL ?_;(case aP=>exact rfl);(case aB=>exact (zH1 HB.1 GE349.1));(case aF=>exact (fun k_ hk=>⟨(.inr (Nat.le_trans (by first|exact HK.1.1|exact (show Kept w _ (fun k_=>P3_ k_) from zK1 HK.1 GW349.1).1) hk)),Kd.fresh' (Kd.R_lt (zR HO_9.1)) k_ hk⟩));(case aO=>exact (zR HO_10.1));(case aS=>exact (below_size (zH1 HB.1 GE349.1)));(case aL=>have:=LMc21.1;omega);intro v365 w27 ho hb hg hat;rw [← Ny364.1] at ho;refine zA6 (Kd.R_over' (zR HO_3.1) (Kd.R_typed (zR HO_10.1)) (by decide) hg) (Kd.R_after (ok:=(fun k_=>(P3_ k_∨w.heap.size≤k_))) (zR HO_9.1) hg hat) (blk_grown (g:=gb349) (o:=.cells #[.int .i64 a0_0,.int .i64 a0_1,.int .i64 a0_2,.int .i64 a0_3] 25 (0,0)) (zB BK349.1) hg (Kd.R_ne HO_10.1 BK349.1 (by decide))) (hb) (Kept.of_grown (S:=(fun k_=>P3_ k_)) hg (zK1 HK.1 GW349.1) (fun k_ e_=>(HO_10.1.1 k_ e_).1)) (ho) ?_;clear HO_3 HO_9 BK349 HB HK HO_10;intro HO_3 HO_9 BK349 HB HK HO366;clear ho hb hg hat))
       go_roundg k1
       case measure=>have:=HK1.1;omega
       case rel=>exact ⟨(t362),(y364),(wrap64 (x11_1+1)),(zF),H',⟨by have:=HK1.1;omega⟩,⟨zR HO_3.1⟩,⟨zR HO_9.1⟩,⟨zR HO366.1⟩,⟨zB BK349.1⟩,⟨zK1 HK.1 GW349.1⟩,⟨zH1 HB.1 GE349.1⟩⟩
      ·rw [if_neg c21] at H
       exact absurd H (by simp)
    ·rw [if_neg c12] at H
     exact absurd H (by simp)
   ·rw [if_neg c11] at H
    have c11b0:=decide_eq_false c11
    clear c11
    simp only [Option.some.injEq,Prod.mk.injEq] at H
    obtain ⟨rfl,rfl⟩:=H
    obtain ⟨Ao28,co28,eo28⟩:=Kd.R_slice HO_9.1
    subst eo28
    go_wp2
    go_ret
    exact ⟨_,zE,by (with_reducible repeat (first|apply Kd.R_alloc|apply Kd.R_drewN|apply Kd.R_drew));exact Kd.R_mono HO_10.1 (fun _ hk=>hk.1),by (with_reducible repeat (first|apply Kd.R_alloc|apply Kd.R_drewN|apply Kd.R_drew));exact HO_3.1,zH1 HB.1 GE349.1,zK1 HK.1 GW349.1⟩
end Go.Proofs.YtlmohkbimnhecaaGreat.Q
