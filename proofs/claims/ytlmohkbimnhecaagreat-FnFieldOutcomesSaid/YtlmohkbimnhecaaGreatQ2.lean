import Derived.Test.YtlmohkbimnhecaaGreatQ0
import Derived.Test.YtlmohkbimnhecaaGreatSq
import Derived.Test.YtlmohkbimnhecaaGreatQ1
set_option maxHeartbeats 8000000
set_option maxRecDepth 100000
namespace Go.Proofs.YtlmohkbimnhecaaGreat.Q
open Go.RowKit Go.Proofs.YtlmohkbimnhecaaGreatW.PrintWords Go.Proofs.YtlmohkbimnhecaaGreatW.PrintLast Go.Proofs.YtlmohkbimnhecaaGreatW.PrintMore
attribute [local go_sem] max2_int min2_int max_two min_two max_three min_three max_four min_four
set_option linter.unusedVariables false
set_option linter.unusedSimpArgs false
mutual
def spec_l05Draw.l0:Nat→Int→Int→Int→Int→List Int→Int→Int→Int→Int→Int→Int→Option (Int×Int×Int×Int×Int×Int)
 |0,_,_,_,_,_,_,_,_,_,_,_=>none
 |k+1,x1,x2,x8,x9,x1000,x1001,x1002,x162000,x162001,x162002,x162003=>if x9<(wrap64 (Int.tdiv (wrap64 (x1*(wrap64 (x1-1)))) 2)) then ((spec_l01Next.f x1000 x1001 x1002 x8).bind fun bt162=>(if bt162.1=0 then (if 0≤(IntKind.u64.wrap (x9)) then (spec_l05Draw.l0 k x1 x2 x8 (wrap64 (x9+1)) x1000 bt162.2.1 bt162.2.2 x162000 (Go.bits .or .i64 x162001 (shl .i64 1 (IntKind.u64.wrap (x9)))) x162002 x162003) else (none)) else (spec_l05Draw.l0 k x1 x2 x8 (wrap64 (x9+1)) x1000 bt162.2.1 bt162.2.2 x162000 x162001 x162002 x162003))) else ((spec_l01Next.f x1000 x1001 x1002 4).bind fun bt165=>(spec_l05Draw.l1 k x1 x2 bt165.1 x1000 bt165.2.1 bt165.2.2 x162000 x162001 x162002 x162003))
def spec_l05Draw.l1:Nat→Int→Int→Int→List Int→Int→Int→Int→Int→Int→Int→Option (Int×Int×Int×Int×Int×Int)
 |0,_,_,_,_,_,_,_,_,_,_=>none
 |k+1,x1,x2,x10,x1000,x1001,x1002,x162000,x162001,x162002,x162003=>if x10>0 then ((spec_l05Points.f k x162000 x162001 x162002 x162003 x2 (Int.tmod x10 2)).bind fun t168=>(if (t168.length:Int)>0 then ((spec_l01Next.f x1000 x1001 x1002 (t168.length:Int)).bind fun bt171=>(if 0≤bt171.1 then (if bt171.1<(t168.length:Int) then ((spec_l05Move.f x162000 x162001 x162002 x162003 (Int.tmod x10 2) (rd t168 bt171.1)).bind fun bt175=>(spec_l05Draw.l1 k x1 x2 (wrap64 (x10-1)) x1000 bt171.2.1 bt171.2.2 bt175.1 bt175.2.1 bt175.2.2.1 bt175.2.2.2)) else (none)) else (none))) else (spec_l05Draw.l1 k x1 x2 (wrap64 (x10-1)) x1000 x1001 x1002 x162000 x162001 x162002 x162003))) else ((spec_l01Next.f x1000 x1001 x1002 10).bind fun bt179=>(if bt179.1=0 then ((spec_l01Next.f x1000 bt179.2.1 bt179.2.2 x1).bind fun bt182=>(if 0≤(IntKind.u64.wrap (bt182.1)) then (some (x162000,x162001,Go.bits .andNot .i64 x162002 (shl .i64 1 (IntKind.u64.wrap (bt182.1))),Go.bits .or .i64 x162003 (shl .i64 1 (IntKind.u64.wrap (bt182.1))),bt182.2.1,bt182.2.2)) else (none))) else (some (x162000,x162001,x162002,x162003,bt179.2.1,bt179.2.2))))
end
def spec_l05Draw.f (k:Nat) (s0_0:List Int) (s0_1:Int) (s0_2:Int) (a1:Int) (a2:Int):Option (Int×Int×Int×Int×Int×Int):=(spec_l01Pick.f s0_0 s0_1 s0_2 (([2,3,3,5]:List Int))).bind fun bt158=>(spec_l05Draw.l0 k a1 a2 bt158.1 0 s0_0 bt158.2.1 bt158.2.2 a1 0 0 0)
def spec_l05Draw.T12:Bool×List (List Nat×List Nat):=(true,[([],[]),([],[]),([1],[1]),([],[]),([],[]),([],[]),([5],[5]),([4,6],[4,6]),([3,7],[3,7]),([8],[8]),([0,2,9,7],[0,2,9]),([10,10,0,1,2,3,4,5,6,7,8,9,10],[10])])
def spec_l05Draw.B12:List Nat:=[0,0,2,0,0,0,32,112,248,504,1023,2047]
theorem spec_l05Draw.tab12:rtab .any (opsOf Tryz.f79 12)=spec_l05Draw.T12:=by kernel_rfl
theorem spec_l05Draw.bits12:waitsOk spec_l05Draw.T12.2 spec_l05Draw.B12=true:=by kernel_rfl
theorem spec_l05Draw.calls (k:Nat) (g:Nat) (s0_0:List Int) (s0_1:Int) (s0_2:Int) (a1:Int) (a2:Int) (r1:Int) (r2:Int) (r3:Int) (r4:Int) (r5:Int) (r6:Int) (w0 w:World) (hI:IsS115 w0 w g s0_0 s0_1 s0_2) (hB:Below w0.heap.size w0 w) (h:spec_l05Draw.f k s0_0 s0_1 s0_2 a1 a2=some (r1,r2,r3,r4,r5,r6)):
 Calls Tryz.prog 79 #[.pointer (some ⟨g,0,none⟩),.int .i64 a1,.int .i64 a2] w fun e w'=>e=.returned (.agg #[.int .i64 r1,.int .i64 r2,.int .i64 r3,.int .i64 r4])∧IsS115 w0 w' g s0_0 r5 r6∧Below w0.heap.size w0 w'∧KeepBut w w' g none:=by
 have hu25:=Tryz.underlying25
 have HI0:=Aside0.mk hI
 have HK:=Aside0.mk (KeepBut.refl w g none)
 have HL:=Aside0.mk hB.size
 clear hI
 have HW0:=Aside0.mk hB.size
 have HB:=Aside0.mk hB
 clear hB
 have H:((spec_l01Pick.f s0_0 s0_1 s0_2 (([2,3,3,5]:List Int))).bind fun bt158=>(spec_l05Draw.l0 k a1 a2 bt158.1 0 s0_0 bt158.2.1 bt158.2.2 a1 0 0 0))=some (r1,r2,r3,r4,r5,r6):=h
 clear h
 obtain ⟨y155,hy155⟩:∃ y_:List Int,y_=(([2,3,3,5]:List Int)):=⟨_,rfl⟩
 replace H:((spec_l01Pick.f s0_0 s0_1 s0_2 y155).bind fun bt158=>(spec_l05Draw.l0 k a1 a2 bt158.1 0 s0_0 bt158.2.1 bt158.2.2 a1 0 0 0))=some (r1,r2,r3,r4,r5,r6):=by first|(rw [hy155];with_reducible exact H)|(have H2_:=(Option.bind_some _ _).symm.trans H;rw [hy155];with_reducible exact H2_)|(have H2_:=(Option.bind_some _ _).symm.trans H;with_reducible exact H2_)|with_reducible exact H|(rw [hy155];exact H)|exact H
 have Ny155:=Aside0.mk hy155
 clear hy155
 obtain ⟨⟨t158,t159,t160⟩,A4,H⟩:=zb H;(try dsimp only at H)
 have H':=Aside0.mk H
 clear H
 go_enter Tryz.func79,Tryz.ntmps79
 go_wp2_with (first|((with_reducible refine gate_dst (N:=6) rfl ?_);refine zX 6 #[.int .i64 0,.int .i64 0,.int .i64 0,.int .i64 0] 25 ?_;intro gb154 hg w5 hbox hb;refine zA8 (IsS115.below (zI HI0.1) hb) (KeepBut.trans (zJ HK.1) (KeepBut.of_below hb g none) (.inl rfl)) (below_step (zH1 HB.1 (IsS115.ge HI0.1)) hb) (hbox) ((by rw [hg];exact (keep_size (w:=w) (g:=g) (row:=none) (zJ HK.1)):w.heap.size≤gb154)) ((Nat.le_trans HW0.1 (by rw [hg];exact (keep_size (w:=w) (g:=g) (row:=none) (zJ HK.1)):w.heap.size≤gb154):w0.heap.size≤gb154)) ((zl hg (IsS115.lt (show IsS115 w0 _ g s0_0 s0_1 s0_2 from zI HI0.1)):g≠gb154)) ((zg hg (IsS115.lt (show IsS115 w0 _ g s0_0 s0_1 s0_2 from zI HI0.1)):gb154≠g)) ?_;clear HI0 HK HB;intro HI0 HK HB BK154 GW154 GE154 NB0_154 NB154_0;clear hb hbox hg)|((with_reducible refine gate_dst (N:=16) rfl ?_);refine Kd.R_lit (Kd.int .i64) _ 2 ?hg (N:=16) ?hd (xs:=([2,3,3,5]:List Int)) (inner:=[.int .i64 2,.int .i64 3,.int .i64 3,.int .i64 5]) (ok:=fun _=>True) (okp:=fun _=>True) ?hr ?hp (fun _ hk=>hk) trivial (Below.refl _ _) (Nat.le_refl _) (by simp) ?_;(case hd=>rfl);(case hg=>rfl);(case hr=>first|(go_simp;done)|(go_simp;rfl));(case hp=>exact (Reps.one (show Kd.M (Kd.int .i64) _ _ _ 2 [.int .i64 2] from rfl) (Reps.one (show Kd.M (Kd.int .i64) _ _ _ 3 [.int .i64 3] from rfl) (Reps.one (show Kd.M (Kd.int .i64) _ _ _ 3 [.int .i64 3] from rfl) (Reps.one (show Kd.M (Kd.int .i64) _ _ _ 5 [.int .i64 5] from rfl) (Reps.none _ _))))));intro v156 w6 ho7 hb hg_ hnew_;clear hg_ hnew_;(first|rw [← Ny155.1] at ho7|(simp only [Int.reduceToNat] at ho7;rw [← Ny155.1] at ho7));refine zA5 (Kd.R_lower ho7 (keep_size (w:=w) (g:=g) (row:=none) (zJ1 HK.1 GW154.1))) (IsS115.below (zI1 HI0.1 NB0_154.1) hb) (zY BK154.1 hb) (KeepBut.trans (zJ1 HK.1 GW154.1) (KeepBut.of_below hb g none) (.inl rfl)) (below_step (zH2 HB.1 (IsS115.ge HI0.1) GE154.1) hb) ?_;clear HI0 BK154 HK HB;intro HO157 HI0 BK154 HK HB;clear hb ho7;obtain ⟨Ao8,co8,eo8⟩:=Kd.R_slice HO157.1;subst eo8)|((with_reducible refine gate_callee (f:=60) rfl ?_);refine zL (some 17) Tryz.func60 #[.pointer (some ⟨g,0,none⟩),.slice Ao8 y155.length co8] ?_;(with_reducible refine (spec_l01Pick.calls g s0_0 s0_1 s0_2 _ _ y155 t158 t159 t160 w0 _ ?side1 ?side2 ?side3 ?side4 ?side5 A4.1).mono ?_);(case side1=>exact zI1 HI0.1 NB0_154.1);(case side2=>exact zH2 HB.1 (IsS115.ge HI0.1) GE154.1);(case side3=>repeat (first|exact (Kd.R_reads' HO157.1).2.2|(with_reducible refine Kd.C_alloc ?_ _)|(with_reducible refine Kd.C_drewN ?_ _)|(with_reducible refine Kd.C_drew ?_)));(case side4=>exact (Kd.R_reads' HO157.1).2.1);(case side5=>exact far_slice (IsS115.own_ne HI0.1 HO157.1 (by decide)));rintro e w9 ⟨rfl,hi,hb,hk⟩;refine ⟨_,rfl,?_⟩;refine zA5 (zYk hk BK154.1 NB154_0.1) (Kd.R_mono (Kd.R_keep (IsS115.apart (show IsS115 w0 _ g s0_0 s0_1 s0_2 from zI1 HI0.1 NB0_154.1) (zR HO157.1) (by decide)) hk (fun _ h=>h.2)) (fun _ h=>h.1)) (KeepBut.trans (zJ1 HK.1 GW154.1) hk (.inl rfl)) (hb) (hi) ?_;clear BK154 HO157 HK HB HI0;intro BK154 HO157 HK HB HI0;(try clear hb);(try clear hk);(try clear hi))|((with_reducible refine gate_dst (N:=7) rfl ?_);refine zX 7 #[.int .i64 0,.int .i64 0,.int .i64 0,.int .i64 0] 25 ?_;intro gb161 hg w10 hbox hb;refine zA12 (Kd.R_below (zR HO157.1) hb) (IsS115.below (zI1 HI0.1 NB0_154.1) hb) (zY BK154.1 hb) (KeepBut.trans (zJ1 HK.1 GW154.1) (KeepBut.of_below hb g none) (.inl rfl)) (below_step (zH2 HB.1 (IsS115.ge HI0.1) GE154.1) hb) (hbox) ((by rw [hg];exact (keep_size (w:=w) (g:=g) (row:=none) (zJ1 HK.1 GW154.1)):w.heap.size≤gb161)) ((Nat.le_trans HW0.1 (by rw [hg];exact (keep_size (w:=w) (g:=g) (row:=none) (zJ1 HK.1 GW154.1)):w.heap.size≤gb161):w0.heap.size≤gb161)) ((zl hg (blk_lt (g:=gb154) (o:=.cells #[.int .i64 0,.int .i64 0,.int .i64 0,.int .i64 0] 25 (0,0)) (zB BK154.1)):gb154≠gb161)) ((zg hg (blk_lt (g:=gb154) (o:=.cells #[.int .i64 0,.int .i64 0,.int .i64 0,.int .i64 0] 25 (0,0)) (zB BK154.1)):gb161≠gb154)) ((zl hg (IsS115.lt (show IsS115 w0 _ g s0_0 t159 t160 from zI1 HI0.1 NB0_154.1)):g≠gb161)) ((zg hg (IsS115.lt (show IsS115 w0 _ g s0_0 t159 t160 from zI1 HI0.1 NB0_154.1)):gb161≠g)) ?_;clear HO157 HI0 BK154 HK HB;intro HO157 HI0 BK154 HK HB BK161 GW161 GE161 NB154_161 NB161_154 NB0_161 NB161_0;clear hb hbox hg;have hnb11:=NB161_154.1;have hnc11:=NB154_161.1;have hnb12:=NB161_0.1;have hnc12:=NB0_161.1;obtain ⟨Z13_0,Z13_1,Z13_2,Z13_3⟩:=zc4 BK161;obtain ⟨V13_0,V13_1,V13_2,V13_3⟩:=zf4 BK161))
 go_loopg [9] k (fun kq v9 w'=>∃ (x9_1:Int) (x1001_1:Int) (x1002_1:Int) (x162001_1:Int),v9=.int .i64 x9_1∧Aside0 (spec_l05Draw.l0 kq a1 a2 t158 x9_1 s0_0 x1001_1 x1002_1 a1 x162001_1 0 0=some (r1,r2,r3,r4,r5,r6))∧Aside0 (kq≤k)∧Aside0 (w'.heap[gb154]?=some (.cells #[.int .i64 0,.int .i64 0,.int .i64 0,.int .i64 0] 25 (0,0)))∧Aside0 (w'.heap[gb161]?=some (.cells #[.int .i64 a1,.int .i64 x162001_1,.int .i64 0,.int .i64 0] 25 (0,0)))∧Aside0 (IsS115 w0 w' g s0_0 x1001_1 x1002_1)∧Aside0 (KeepBut w w' g none)∧Aside0 (Below w0.heap.size w0 w'))
 case atStart=>exact ⟨(0),(t159),(t160),(0),(zF),H',⟨Nat.le_refl _⟩,⟨zQ1 BK154.1 NB154_161.1⟩,⟨zQ BK161.1⟩,⟨zI2 HI0.1 NB0_154.1 NB0_161.1⟩,⟨zJ2 HK.1 GW154.1 GW161.1⟩,⟨zH3 HB.1 (IsS115.ge HI0.1) GE154.1 GE161.1⟩⟩
 case round=>
  clear H'
  try clear c1
  try clear p2
  try clear c6
  try clear c7
  try clear c11
  try clear c12
  try clear Z13_0 Z13_1 Z13_2 Z13_3 V13_0 V13_1 V13_2 V13_3
  obtain ⟨x9_1,x1001_1,x1002_1,x162001_1,rfl,HA,HK1,BK154,BK161,HI0,HK,HB⟩:=hrel
  cases gk with
  |zero=>exact absurd HA.1 (by simp [spec_l05Draw.l0])
  |succ k1=>
   have H:=HA.1
   clear HA
   simp only [spec_l05Draw.l0] at H
   by_cases c14:x9_1<(wrap64 (Int.tdiv (wrap64 (a1*(wrap64 (a1-1)))) 2))
   ·rw [if_pos c14] at H
    have c14b0:=decide_eq_true c14
    clear c14
    obtain ⟨⟨t162,t163,t164⟩,A15,H⟩:=zb H;(try dsimp only at H)
    by_cases c16:t162=0
    ·rw [if_pos c16] at H
     have c16b0:=zq1 c16
     have c16b1:=zq2 c16
     clear c16
     obtain ⟨ji17,hji17⟩:=zj (IntKind.u64.wrap (x9_1))
     (first|rw [hji17] at H|simp only [hji17] at H)
     (try rw [hji17] at A15)
     by_cases c18:0≤(ji17)
     ·rw [if_pos c18] at H
      have c18b0:=eq_true c18
      have c18b1:=decide_eq_true c18
      clear c18
      obtain ⟨ji19,hji19⟩:=zj (shl .i64 1 (ji17))
      (first|rw [hji19] at H|simp only [hji19] at H)
      (try rw [hji19] at A15)
      have hji19_:(IntKind.i64.wrap (1*2 ^ min (ji17).toNat 64))=ji19:=hji19
      have hji19z:(ji17)≤64→(IntKind.i64.wrap (1*2 ^ (ji17).toNat))=ji19:=shl_small hji19
      have hji19u:(IntKind.i64.wrap (2 ^ min (ji17).toNat 64))=ji19:=by have h_:=hji19_;rw [Int.one_mul] at h_;exact h_
      have hji19v:(ji17)≤64→(IntKind.i64.wrap (2 ^ (ji17).toNat))=ji19:=fun hle_=>by have h_:=hji19z hle_;rw [Int.one_mul] at h_;exact h_
      have hji19y:(wrap64 (1*2 ^ min (ji17).toNat 64))=ji19:=(i64_w _).symm.trans hji19_
      have hji19x:(ji17)≤64→(wrap64 (1*2 ^ (ji17).toNat))=ji19:=fun h_=>(i64_w _).symm.trans (hji19z h_)
      have H':=Aside0.mk H
      clear H
      go_wp2_with (first|((with_reducible refine gate_callee (f:=42) rfl ?_);refine zL (some 29) Tryz.func42 #[.pointer (some ⟨g,0,none⟩),.int .i64 t158] ?_;(with_reducible refine (spec_l01Next.calls g s0_0 x1001_1 x1002_1 t158 t162 t163 t164 w0 _ ?side1 ?side2 A15.1).mono ?_);(case side1=>exact zI2 HI0.1 NB0_154.1 NB0_161.1);(case side2=>exact zH3 HB.1 (IsS115.ge HI0.1) GE154.1 GE161.1);rintro e w20 ⟨rfl,hi,hb,hk⟩;refine ⟨_,rfl,?_⟩;refine zA5 (zYk hk BK154.1 NB154_0.1) (zYk hk BK161.1 NB161_0.1) (KeepBut.trans (zJ2 HK.1 GW154.1 GW161.1) hk (.inl rfl)) (hb) (hi) ?_;clear BK154 BK161 HK HB HI0;intro BK154 BK161 HK HB HI0;(try clear hb);(try clear hk);(try clear hi);have hnb21:=NB161_154.1;have hnc21:=NB154_161.1;have hnb22:=NB161_0.1;have hnc22:=NB0_161.1;obtain ⟨Z23_0,Z23_1,Z23_2,Z23_3⟩:=zc4 BK161;obtain ⟨V23_0,V23_1,V23_2,V23_3⟩:=zf4 BK161))
      go_roundg k1
      case measure=>have:=HK1.1;omega
      case rel=>exact ⟨(wrap64 (x9_1+1)),(t163),(t164),(Go.bits .or .i64 x162001_1 (ji19)),(zF),H',⟨by have:=HK1.1;omega⟩,⟨zQ1 BK154.1 NB154_161.1⟩,⟨zQ BK161.1⟩,⟨zI2 HI0.1 NB0_154.1 NB0_161.1⟩,⟨zJ2 HK.1 GW154.1 GW161.1⟩,⟨zH3 HB.1 (IsS115.ge HI0.1) GE154.1 GE161.1⟩⟩
     ·rw [if_neg c18] at H
      exact absurd H (by simp)
    ·rw [if_neg c16] at H
     have c16b0:=zq3 c16
     have c16b1:=zq4 c16
     have H':=Aside0.mk H
     clear H
     go_wp2_with (first|((with_reducible refine gate_callee (f:=42) rfl ?_);refine zL (some 29) Tryz.func42 #[.pointer (some ⟨g,0,none⟩),.int .i64 t158] ?_;(with_reducible refine (spec_l01Next.calls g s0_0 x1001_1 x1002_1 t158 t162 t163 t164 w0 _ ?side1 ?side2 A15.1).mono ?_);(case side1=>exact zI2 HI0.1 NB0_154.1 NB0_161.1);(case side2=>exact zH3 HB.1 (IsS115.ge HI0.1) GE154.1 GE161.1);rintro e w24 ⟨rfl,hi,hb,hk⟩;refine ⟨_,rfl,?_⟩;refine zA5 (zYk hk BK154.1 NB154_0.1) (zYk hk BK161.1 NB161_0.1) (KeepBut.trans (zJ2 HK.1 GW154.1 GW161.1) hk (.inl rfl)) (hb) (hi) ?_;clear BK154 BK161 HK HB HI0;intro BK154 BK161 HK HB HI0;(try clear hb);(try clear hk);(try clear hi)))
     go_roundg k1
     case measure=>have:=HK1.1;omega
     case rel=>exact ⟨(wrap64 (x9_1+1)),(t163),(t164),(x162001_1),(zF),H',⟨by have:=HK1.1;omega⟩,⟨zB BK154.1⟩,⟨zB BK161.1⟩,⟨zI2 HI0.1 NB0_154.1 NB0_161.1⟩,⟨zJ2 HK.1 GW154.1 GW161.1⟩,⟨zH3 HB.1 (IsS115.ge HI0.1) GE154.1 GE161.1⟩⟩
   ·rw [if_neg c14] at H
    have c14b0:=decide_eq_false c14
    clear c14
    obtain ⟨⟨t165,t166,t167⟩,A25,H⟩:=zb H;(try dsimp only at H)
    have H':=Aside0.mk H
    clear H
    go_wp2_with (first|((with_reducible refine gate_callee (f:=42) rfl ?_);refine zL (some 39) Tryz.func42 #[.pointer (some ⟨g,0,none⟩),.int .i64 4] ?_;(with_reducible refine (spec_l01Next.calls g s0_0 x1001_1 x1002_1 4 t165 t166 t167 w0 _ ?side1 ?side2 A25.1).mono ?_);(case side1=>exact zI2 HI0.1 NB0_154.1 NB0_161.1);(case side2=>exact zH3 HB.1 (IsS115.ge HI0.1) GE154.1 GE161.1);rintro e w26 ⟨rfl,hi,hb,hk⟩;refine ⟨_,rfl,?_⟩;refine zA5 (zYk hk BK154.1 NB154_0.1) (zYk hk BK161.1 NB161_0.1) (KeepBut.trans (zJ2 HK.1 GW154.1 GW161.1) hk (.inl rfl)) (hb) (hi) ?_;clear BK154 BK161 HK HB HI0;intro BK154 BK161 HK HB HI0;(try clear hb);(try clear hk);(try clear hi)))
    go_loopg [10] k1 (fun kq v10 w'=>∃ (x10_2:Int) (x1001_2:Int) (x1002_2:Int) (x162000_2:Int) (x162001_2:Int) (x162002_2:Int) (x162003_2:Int),v10=.int .i64 x10_2∧Aside0 (spec_l05Draw.l1 kq a1 a2 x10_2 s0_0 x1001_2 x1002_2 x162000_2 x162001_2 x162002_2 x162003_2=some (r1,r2,r3,r4,r5,r6))∧Aside0 (kq≤k1)∧Aside0 (w'.heap[gb154]?=some (.cells #[.int .i64 0,.int .i64 0,.int .i64 0,.int .i64 0] 25 (0,0)))∧Aside0 (w'.heap[gb161]?=some (.cells #[.int .i64 x162000_2,.int .i64 x162001_2,.int .i64 x162002_2,.int .i64 x162003_2] 25 (0,0)))∧Aside0 (IsS115 w0 w' g s0_0 x1001_2 x1002_2)∧Aside0 (KeepBut w w' g none)∧Aside0 (Below w0.heap.size w0 w'))
    case atStart=>exact ⟨(t165),(t166),(t167),(a1),(x162001_1),(0),(0),(zF),H',⟨Nat.le_refl _⟩,⟨zB BK154.1⟩,⟨zB BK161.1⟩,⟨zI2 HI0.1 NB0_154.1 NB0_161.1⟩,⟨zJ2 HK.1 GW154.1 GW161.1⟩,⟨zH3 HB.1 (IsS115.ge HI0.1) GE154.1 GE161.1⟩⟩
    case round=>
     clear H'
     try clear c1
     try clear c2
     try clear p2
     try clear c4
     try clear c6
     try clear p6
     try clear c7
     try clear c11
     try clear c12
     try clear c14
     try clear c14b0
     try clear c16
     try clear c16b0
     try clear c16b1
     try clear c18
     try clear c18b0
     try clear c18b1
     try clear c21
     try clear c22
     try clear Z13_0 Z13_1 Z13_2 Z13_3
     try clear Z23_0 Z23_1 Z23_2 Z23_3
     try clear V13_0 V13_1 V13_2 V13_3
     try clear V23_0 V23_1 V23_2 V23_3
     try clear p2
     obtain ⟨x10_2,x1001_2,x1002_2,x162000_2,x162001_2,x162002_2,x162003_2,rfl,HA,HK2,BK154,BK161,HI0,HK,HB⟩:=hrel
     cases gk with
     |zero=>exact absurd HA.1 (by simp [spec_l05Draw.l1])
     |succ k2=>
      have H:=HA.1
      clear HA
      simp only [spec_l05Draw.l1] at H
      by_cases c27:x10_2>0
      ·rw [if_pos c27] at H
       have c27b0:=decide_eq_true c27
       clear c27
       obtain ⟨t168,A28,H⟩:=zb H
       by_cases c29:(t168.length:Int)>0
       ·rw [if_pos c29] at H
        have c29b0:=decide_eq_true c29
        have c29b1:decide (0<t168.length)=true:=decide_eq_true (by omega)
        clear c29
        obtain ⟨⟨t171,t172,t173⟩,A30,H⟩:=zb H;(try dsimp only at H)
        by_cases c31:0≤t171
        ·rw [if_pos c31] at H
         have c31b0:=decide_eq_true c31
         clear c31
         by_cases c32:t171<(t168.length:Int)
         ·rw [if_pos c32] at H
          have c32b0:=decide_eq_true c32
          clear c32
          obtain ⟨⟨t175,t176,t177,t178⟩,A33,H⟩:=zb H;(try dsimp only at H)
          have H':=Aside0.mk H
          clear H
          have hnb34:=NB161_154.1
          have hnc34:=NB154_161.1
          have hnb35:=NB161_0.1
          have hnc35:=NB0_161.1
          obtain ⟨Z36_0,Z36_1,Z36_2,Z36_3⟩:=zc4 BK161
          obtain ⟨V36_0,V36_1,V36_2,V36_3⟩:=zf4 BK161
          try go_wp2_with (first|((with_reducible refine gate_callee (f:=35) rfl ?_);refine zL (some 48) Tryz.func35 #[.agg #[.int .i64 x162000_2,.int .i64 x162001_2,.int .i64 x162002_2,.int .i64 x162003_2],.int .i64 a2,.int .i64 (Int.tmod x10_2 2)] ?_;(with_reducible refine (spec_l05Points.calls k2 x162000_2 x162001_2 x162002_2 x162003_2 a2 (Int.tmod x10_2 2) t168 _ A28.1).mono ?_);rintro e w37 ⟨v169,rfl,ho0,hb⟩;refine ⟨_,rfl,?_⟩;refine zA6 (Kd.R_lower ho0 (keep_size (w:=w) (g:=g) (row:=none) (zJ2 HK.1 GW154.1 GW161.1))) (zY BK154.1 hb) (zY BK161.1 hb) (IsS115.below (zI2 HI0.1 NB0_154.1 NB0_161.1) hb) (KeepBut.trans (zJ2 HK.1 GW154.1 GW161.1) (KeepBut.of_below hb g none) (.inl rfl)) (below_step (zH3 HB.1 (IsS115.ge HI0.1) GE154.1 GE161.1) hb) ?_;clear BK154 BK161 HI0 HK HB;intro HO170 BK154 BK161 HI0 HK HB;(try clear hb);(try clear ho0);obtain ⟨Ao38,co38,eo38⟩:=Kd.R_slice HO170.1;subst eo38))
          refine zA6 (Kd.R_drew HO170.1) (blk_drew BK154.1) (blk_drew BK161.1) (IsS115.drew HI0.1) (keep_drew HK.1) (below_drew1 HB.1) ?_
          clear HO170 BK154 BK161 HI0 HK HB
          intro HO170 BK154 BK161 HI0 HK HB
          have p174:0≤(t171:Int):=zo
          have q174:t171<(t168.length:Int):=zo
          obtain ⟨ad174,e174,hx174_0⟩:=Kd.at_int (Kd.R_reads' HO170.1).2.2 t171 p174 q174
          cases e174
          replace p174:=eq_true p174
          replace q174:=eq_true q174
          refine start_ (n:=12) (S:=fun w'=>w'.cell? ⟨gb161,0,none⟩=some (.int .i64 x162000_2)∧w'.cell? ⟨gb161,1,none⟩=some (.int .i64 x162001_2)∧w'.cell? ⟨gb161,2,none⟩=some (.int .i64 x162002_2)∧w'.cell? ⟨gb161,3,none⟩=some (.int .i64 x162003_2)∧w'.cell? (ad174.add (t171).toNat)=some (.int .i64 (rd t168 t171))) (ds:=[11]) #[false,false,false,false,false,false,false,false,false,false,false,false] (by kernel_rfl) rfl rfl ⟨zx BK161 0,zx BK161 1,zx BK161 2,zx BK161 3,hx174_0⟩ (fun hHeld=>?_);refine with_tabW spec_l05Draw.tab12 spec_l05Draw.bits12 (fun HT_ HW_=>?_)
          generalize w37.drew=w39 at HO170 BK154 BK161 HI0 HK HB hx174_0 hHeld ⊢
          refine zP HT_ 1 (some 53) rfl rfl ?_
          refine zP HT_ 2 (some 54) rfl rfl ?_
          refine zP HT_ 3 (some 55) rfl rfl ?_
          refine zP HT_ 4 (some 56) rfl rfl ?_
          refine zP HT_ 5 (some 57) rfl rfl ?_
          refine zP HT_ 6 (some 58) rfl rfl ?_
          refine zT HT_ HW_ hHeld 0 (some 52) rfl rfl ?_
          refine one_ (i:=7) (N:=some 59) #[true,true,true,true,true,true,true,true,false,false,false,false] rfl rfl (one_of HT_.1 (by kernel_rfl)) (by decide) (fun K hK=>?_)
          refine goes_ Tryz.func42 (by kernel_rfl) rfl #[.pointer (some ⟨g,0,none⟩),.int .i64 (t168.length:Int)] (by rfl) rfl rfl zM ?_
          with_reducible refine (spec_l01Next.calls g s0_0 x1001_2 x1002_2 (t168.length:Int) t171 t172 t173 w0 _ ?side1 ?side2 A30.1).mono ?_
          (case side1=>exact zI2 HI0.1 NB0_154.1 NB0_161.1)
          (case side2=>exact zH3 HB.1 (IsS115.ge HI0.1) GE154.1 GE161.1)
          rintro e w40 ⟨rfl,hi,hb,hk⟩
          have HS4_:=keep_cell hk (hHeld.2.2.2.2) (by first|(rw [add_block];exact Kd.own_blk (IsS115.own_ne HI0.1 HO170.1 (by decide)))|(show (Addr.add _ _).block≠_;rw [add_block];exact Kd.own_blk (IsS115.own_ne HI0.1 HO170.1 (by decide)))|exact Kd.own_blk (IsS115.own_ne HI0.1 HO170.1 (by decide)))
          refine ⟨_,rfl,?_⟩
          refine zA6 (zYk hk BK154.1 NB154_0.1) (zYk hk BK161.1 NB161_0.1) (Kd.R_mono (Kd.R_keep (IsS115.apart (show IsS115 w0 _ g s0_0 x1001_2 x1002_2 from zI2 HI0.1 NB0_154.1 NB0_161.1) (zR HO170.1) (by decide)) hk (fun _ h=>h.2)) (fun _ h=>h.1)) (KeepBut.trans (zJ2 HK.1 GW154.1 GW161.1) hk (.inl rfl)) (hb) (hi) ?_
          clear BK154 BK161 HO170 HK HB HI0
          intro BK154 BK161 HO170 HK HB HI0
          (try clear hb)
          (try clear hb2)
          (try clear hk)
          (try clear hi)
          refine hK.out _ _ ⟨zx BK161 0,zx BK161 1,zx BK161 2,zx BK161 3,HS4_⟩ (fun hHeld=>?_)
          clear hK K
          refine zW (some 59) ?_
          refine zP HT_ 8 (some 60) rfl rfl ?_
          refine zT HT_ HW_ hHeld 9 (some 61) rfl rfl ?_
          refine one_ (i:=10) (N:=some 62) #[true,true,true,true,true,true,true,true,true,true,true,false] rfl rfl (one_of HT_.1 (by kernel_rfl)) (by decide) (fun K hK=>?_)
          refine goes_ Tryz.func36 (by kernel_rfl) rfl #[.agg #[.int .i64 x162000_2,.int .i64 x162001_2,.int .i64 x162002_2,.int .i64 x162003_2],.int .i64 (Int.tmod x10_2 2),.int .i64 (rd t168 t171)] (by rfl) rfl rfl zM ?_
          with_reducible refine (spec_l05Move.calls x162000_2 x162001_2 x162002_2 x162003_2 (Int.tmod x10_2 2) (rd t168 t171) t175 t176 t177 t178 _ A33.1).mono ?_
          rintro e w41 ⟨rfl,hb⟩
          have HS4_:=(hb.cell (World.block_lt_of_cell? _ _ (hHeld.2.2.2.2))).trans (hHeld.2.2.2.2)
          refine ⟨_,rfl,?_⟩
          refine zA6 (Kd.R_below (zR HO170.1) hb) (zY BK154.1 hb) (zY BK161.1 hb) (IsS115.below (zI2 HI0.1 NB0_154.1 NB0_161.1) hb) (KeepBut.trans (zJ2 HK.1 GW154.1 GW161.1) (KeepBut.of_below hb g none) (.inl rfl)) (below_step (zH3 HB.1 (IsS115.ge HI0.1) GE154.1 GE161.1) hb) ?_
          clear HO170 BK154 BK161 HI0 HK HB
          intro HO170 BK154 BK161 HI0 HK HB
          (try clear hb)
          (try clear hb2)
          (try clear hk)
          (try clear hi)
          refine hK.out _ _ ⟨zx BK161 0,zx BK161 1,zx BK161 2,zx BK161 3,HS4_⟩ (fun hHeld=>?_)
          clear hK K
          refine zW (some 62) ?_
          refine last_ (i:=11) (N:=none) #[true,true,true,true,true,true,true,true,true,true,true,true] rfl rfl (one_of HT_.1 (by kernel_rfl)) (by decide) (fun K hK=>?_)
          have hs42:w41.cell? ⟨gb161,0,none⟩=some (.int .i64 x162000_2):=zx BK161 0
          have hfs42:=blk_frozen BK161.1 0
          have hns42_0:=NB154_161.1
          have hms42_0:=NB161_154.1
          have hs43:w41.cell? ⟨gb161,1,none⟩=some (.int .i64 x162001_2):=zx BK161 1
          have hfs43:=blk_frozen BK161.1 1
          have hns43_0:=NB154_161.1
          have hms43_0:=NB161_154.1
          have hs44:w41.cell? ⟨gb161,2,none⟩=some (.int .i64 x162002_2):=zx BK161 2
          have hfs44:=blk_frozen BK161.1 2
          have hns44_0:=NB154_161.1
          have hms44_0:=NB161_154.1
          have hs45:w41.cell? ⟨gb161,3,none⟩=some (.int .i64 x162003_2):=zx BK161 3
          have hfs45:=blk_frozen BK161.1 3
          have hns45_0:=NB154_161.1
          have hms45_0:=NB161_154.1
          refine skip_ (w1:=?_) (by rfl) rfl ?_ ?_
          rotate_left
          ·go_simp
           rfl
          refine hK.out _ _ ?_
          clear hK K
          refine done_ (done_of HT_.1 (by kernel_rfl)) ?_
          try go_wp2
          go_roundg k2
          case measure=>have:=HK1.1;have:=HK2.1;omega
          case rel=>exact ⟨(wrap64 (x10_2-1)),(t172),(t173),(t175),(t176),(t177),(t178),(zF),H',⟨by have:=HK1.1;have:=HK2.1;omega⟩,⟨zQ1 BK154.1 NB154_161.1⟩,⟨zQ BK161.1⟩,⟨zI2 HI0.1 NB0_154.1 NB0_161.1⟩,⟨zJ2 HK.1 GW154.1 GW161.1⟩,⟨zH3 HB.1 (IsS115.ge HI0.1) GE154.1 GE161.1⟩⟩
         ·rw [if_neg c32] at H
          exact absurd H (by simp)
        ·rw [if_neg c31] at H
         exact absurd H (by simp)
       ·rw [if_neg c29] at H
        have c29b0:=decide_eq_false c29
        have c29b1:decide (0<t168.length)=false:=decide_eq_false (by omega)
        clear c29
        have H':=Aside0.mk H
        clear H
        have hnb46:=NB161_154.1
        have hnc46:=NB154_161.1
        have hnb47:=NB161_0.1
        have hnc47:=NB0_161.1
        obtain ⟨Z48_0,Z48_1,Z48_2,Z48_3⟩:=zc4 BK161
        obtain ⟨V48_0,V48_1,V48_2,V48_3⟩:=zf4 BK161
        go_wp2_with (first|((with_reducible refine gate_callee (f:=35) rfl ?_);refine zL (some 48) Tryz.func35 #[.agg #[.int .i64 x162000_2,.int .i64 x162001_2,.int .i64 x162002_2,.int .i64 x162003_2],.int .i64 a2,.int .i64 (Int.tmod x10_2 2)] ?_;(with_reducible refine (spec_l05Points.calls k2 x162000_2 x162001_2 x162002_2 x162003_2 a2 (Int.tmod x10_2 2) t168 _ A28.1).mono ?_);rintro e w49 ⟨v169,rfl,ho0,hb⟩;refine ⟨_,rfl,?_⟩;refine zA6 (Kd.R_lower ho0 (keep_size (w:=w) (g:=g) (row:=none) (zJ2 HK.1 GW154.1 GW161.1))) (zY BK154.1 hb) (zY BK161.1 hb) (IsS115.below (zI2 HI0.1 NB0_154.1 NB0_161.1) hb) (KeepBut.trans (zJ2 HK.1 GW154.1 GW161.1) (KeepBut.of_below hb g none) (.inl rfl)) (below_step (zH3 HB.1 (IsS115.ge HI0.1) GE154.1 GE161.1) hb) ?_;clear BK154 BK161 HI0 HK HB;intro HO170 BK154 BK161 HI0 HK HB;(try clear hb);(try clear ho0);obtain ⟨Ao50,co50,eo50⟩:=Kd.R_slice HO170.1;subst eo50))
        go_roundg k2
        case measure=>have:=HK1.1;have:=HK2.1;omega
        case rel=>exact ⟨(wrap64 (x10_2-1)),(x1001_2),(x1002_2),(x162000_2),(x162001_2),(x162002_2),(x162003_2),(zF),H',⟨by have:=HK1.1;have:=HK2.1;omega⟩,⟨zB BK154.1⟩,⟨zB BK161.1⟩,⟨zI2 HI0.1 NB0_154.1 NB0_161.1⟩,⟨zJ2 HK.1 GW154.1 GW161.1⟩,⟨zH3 HB.1 (IsS115.ge HI0.1) GE154.1 GE161.1⟩⟩
      ·rw [if_neg c27] at H
       have c27b0:=decide_eq_false c27
       clear c27
       obtain ⟨⟨t179,t180,t181⟩,A51,H⟩:=zb H;(try dsimp only at H)
       by_cases c52:t179=0
       ·rw [if_pos c52] at H
        have c52b0:=zq1 c52
        have c52b1:=zq2 c52
        clear c52
        obtain ⟨⟨t182,t183,t184⟩,A53,H⟩:=zb H;(try dsimp only at H)
        obtain ⟨ji54,hji54⟩:=zj (IntKind.u64.wrap (t182))
        (first|rw [hji54] at H|simp only [hji54] at H)
        (try rw [hji54] at A51)
        (try rw [hji54] at A53)
        by_cases c55:0≤(ji54)
        ·rw [if_pos c55] at H
         have c55b0:=eq_true c55
         have c55b1:=decide_eq_true c55
         clear c55
         obtain ⟨ji56,hji56⟩:=zj (shl .i64 1 (ji54))
         (first|rw [hji56] at H|simp only [hji56] at H)
         (try rw [hji56] at A51)
         (try rw [hji56] at A53)
         have hji56_:(IntKind.i64.wrap (1*2 ^ min (ji54).toNat 64))=ji56:=hji56
         have hji56z:(ji54)≤64→(IntKind.i64.wrap (1*2 ^ (ji54).toNat))=ji56:=shl_small hji56
         have hji56u:(IntKind.i64.wrap (2 ^ min (ji54).toNat 64))=ji56:=by have h_:=hji56_;rw [Int.one_mul] at h_;exact h_
         have hji56v:(ji54)≤64→(IntKind.i64.wrap (2 ^ (ji54).toNat))=ji56:=fun hle_=>by have h_:=hji56z hle_;rw [Int.one_mul] at h_;exact h_
         have hji56y:(wrap64 (1*2 ^ min (ji54).toNat 64))=ji56:=(i64_w _).symm.trans hji56_
         have hji56x:(ji54)≤64→(wrap64 (1*2 ^ (ji54).toNat))=ji56:=fun h_=>(i64_w _).symm.trans (hji56z h_)
         have c57b0:=eq_true (zo:0≤(ji54))
         simp only [Option.some.injEq,Prod.mk.injEq] at H
         obtain ⟨rfl,rfl,rfl,rfl,rfl,rfl⟩:=H
         go_wp2_with (first|((with_reducible refine gate_callee (f:=42) rfl ?_);refine zL (some 64) Tryz.func42 #[.pointer (some ⟨g,0,none⟩),.int .i64 10] ?_;(with_reducible refine (spec_l01Next.calls g s0_0 x1001_2 x1002_2 10 t179 t180 t181 w0 _ ?side1 ?side2 A51.1).mono ?_);(case side1=>exact zI2 HI0.1 NB0_154.1 NB0_161.1);(case side2=>exact zH3 HB.1 (IsS115.ge HI0.1) GE154.1 GE161.1);rintro e w58 ⟨rfl,hi,hb,hk⟩;refine ⟨_,rfl,?_⟩;refine zA5 (zYk hk BK154.1 NB154_0.1) (zYk hk BK161.1 NB161_0.1) (KeepBut.trans (zJ2 HK.1 GW154.1 GW161.1) hk (.inl rfl)) (hb) (hi) ?_;clear BK154 BK161 HK HB HI0;intro BK154 BK161 HK HB HI0;(try clear hb);(try clear hk);(try clear hi))|((with_reducible refine gate_callee (f:=42) rfl ?_);refine zL (some 68) Tryz.func42 #[.pointer (some ⟨g,0,none⟩),.int .i64 a1] ?_;(with_reducible refine (spec_l01Next.calls g s0_0 t180 t181 a1 t182 t183 t184 w0 _ ?side1 ?side2 A53.1).mono ?_);(case side1=>exact zI2 HI0.1 NB0_154.1 NB0_161.1);(case side2=>exact zH3 HB.1 (IsS115.ge HI0.1) GE154.1 GE161.1);rintro e w59 ⟨rfl,hi,hb,hk⟩;refine ⟨_,rfl,?_⟩;refine zA5 (zYk hk BK154.1 NB154_0.1) (zYk hk BK161.1 NB161_0.1) (KeepBut.trans (zJ2 HK.1 GW154.1 GW161.1) hk (.inl rfl)) (hb) (hi) ?_;clear BK154 BK161 HK HB HI0;intro BK154 BK161 HK HB HI0;(try clear hb);(try clear hk);(try clear hi);have hnb60:=NB161_154.1;have hnc60:=NB154_161.1;have hnb61:=NB161_0.1;have hnc61:=NB0_161.1;obtain ⟨Z62_0,Z62_1,Z62_2,Z62_3⟩:=zc4 BK161;obtain ⟨V62_0,V62_1,V62_2,V62_3⟩:=zf4 BK161;have hnb63:=NB154_0.1;have hnc63:=NB0_154.1;obtain ⟨Z64_0,Z64_1,Z64_2,Z64_3⟩:=zc4 BK154;obtain ⟨V64_0,V64_1,V64_2,V64_3⟩:=zf4 BK154))
         refine bodyPost_ret (results_cell_row rfl _ _ gb154 25 #[.int .i64 x162000_2,.int .i64 x162001_2,.int .i64 (Go.bits .andNot .i64 x162002_2 (ji56)),.int .i64 (Go.bits .or .i64 x162003_2 (ji56))] (0,0) _ rfl (zQ1 BK154.1 NB154_161.1) Tryz.underlying25 rfl (by kernel_rfl)) rfl ?_
         exact ⟨by first|rfl|(simp [errW_none,errW_some] <;> rfl)|(simp only [← hji54,← hji56];first|rfl|(simp [errW_none,errW_some] <;> rfl))|(simp [*,errW_none,errW_some] <;> rfl),zI2 HI0.1 NB0_154.1 NB0_161.1,zH3 HB.1 (IsS115.ge HI0.1) GE154.1 GE161.1,zJ2 HK.1 GW154.1 GW161.1⟩
        ·rw [if_neg c55] at H
         exact absurd H (by simp)
       ·rw [if_neg c52] at H
        have c52b0:=zq3 c52
        have c52b1:=zq4 c52
        simp only [Option.some.injEq,Prod.mk.injEq] at H
        obtain ⟨rfl,rfl,rfl,rfl,rfl,rfl⟩:=H
        go_wp2_with (first|((with_reducible refine gate_callee (f:=42) rfl ?_);refine zL (some 64) Tryz.func42 #[.pointer (some ⟨g,0,none⟩),.int .i64 10] ?_;(with_reducible refine (spec_l01Next.calls g s0_0 x1001_2 x1002_2 10 t179 t180 t181 w0 _ ?side1 ?side2 A51.1).mono ?_);(case side1=>exact zI2 HI0.1 NB0_154.1 NB0_161.1);(case side2=>exact zH3 HB.1 (IsS115.ge HI0.1) GE154.1 GE161.1);rintro e w65 ⟨rfl,hi,hb,hk⟩;refine ⟨_,rfl,?_⟩;refine zA5 (zYk hk BK154.1 NB154_0.1) (zYk hk BK161.1 NB161_0.1) (KeepBut.trans (zJ2 HK.1 GW154.1 GW161.1) hk (.inl rfl)) (hb) (hi) ?_;clear BK154 BK161 HK HB HI0;intro BK154 BK161 HK HB HI0;(try clear hb);(try clear hk);(try clear hi);have hnb66:=NB161_154.1;have hnc66:=NB154_161.1;have hnb67:=NB161_0.1;have hnc67:=NB0_161.1;obtain ⟨Z68_0,Z68_1,Z68_2,Z68_3⟩:=zc4 BK161;obtain ⟨V68_0,V68_1,V68_2,V68_3⟩:=zf4 BK161;have hnb69:=NB154_0.1;have hnc69:=NB0_154.1;obtain ⟨Z70_0,Z70_1,Z70_2,Z70_3⟩:=zc4 BK154;obtain ⟨V70_0,V70_1,V70_2,V70_3⟩:=zf4 BK154))
        refine bodyPost_ret (results_cell_row rfl _ _ gb154 25 #[.int .i64 x162000_2,.int .i64 x162001_2,.int .i64 x162002_2,.int .i64 x162003_2] (0,0) _ rfl (zQ BK154.1) Tryz.underlying25 rfl (by kernel_rfl)) rfl ?_
        exact ⟨zE,zI2 HI0.1 NB0_154.1 NB0_161.1,zH3 HB.1 (IsS115.ge HI0.1) GE154.1 GE161.1,zJ2 HK.1 GW154.1 GW161.1⟩
mutual
def spec_l05Union.l0:Nat→Int→Int→Int→Int→Int→Int→Int→Int→Int→Int→Int→Int→Int→Option (Int×Int×Int×Int)
 |0,_,_,_,_,_,_,_,_,_,_,_,_,_=>none
 |k+1,x6,x186000,x186001,x186002,x186003,x187000,x187001,x187002,x187003,x189000,x189001,x189002,x189003=>if x6<x187000 then (spec_l05Union.l1 k x6 0 x186000 x186001 x186002 x186003 x187000 x187001 x187002 x187003 x189000 x189001 x189002 x189003) else (some (x189000,x189001,x189002,x189003))
def spec_l05Union.l1:Nat→Int→Int→Int→Int→Int→Int→Int→Int→Int→Int→Int→Int→Int→Int→Option (Int×Int×Int×Int)
 |0,_,_,_,_,_,_,_,_,_,_,_,_,_,_=>none
 |k+1,x6,x7,x186000,x186001,x186002,x186003,x187000,x187001,x187002,x187003,x189000,x189001,x189002,x189003=>if x7<x6 then ((spec_l05Joined.f x187000 x187001 x187002 x187003 x7 x6).bind fun t189=>(if t189=true then (if 0≤(IntKind.u64.wrap (wrap64 ((wrap64 ((wrap64 (Int.tdiv (wrap64 ((wrap64 (x6+x186000))*(wrap64 ((wrap64 (x6+x186000))-1)))) 2))+x7))+x186000))) then (spec_l05Union.l1 k x6 (wrap64 (x7+1)) x186000 x186001 x186002 x186003 x187000 x187001 x187002 x187003 x189000 (Go.bits .or .i64 x189001 (shl .i64 1 (IntKind.u64.wrap (wrap64 ((wrap64 ((wrap64 (Int.tdiv (wrap64 ((wrap64 (x6+x186000))*(wrap64 ((wrap64 (x6+x186000))-1)))) 2))+x7))+x186000))))) x189002 x189003) else (none)) else (spec_l05Union.l1 k x6 (wrap64 (x7+1)) x186000 x186001 x186002 x186003 x187000 x187001 x187002 x187003 x189000 x189001 x189002 x189003))) else (spec_l05Union.l0 k (wrap64 (x6+1)) x186000 x186001 x186002 x186003 x187000 x187001 x187002 x187003 x189000 x189001 x189002 x189003)
end
def spec_l05Union.f (k:Nat) (a0_0:Int) (a0_1:Int) (a0_2:Int) (a0_3:Int) (a1_0:Int) (a1_1:Int) (a1_2:Int) (a1_3:Int):Option (Int×Int×Int×Int):=if 0≤(IntKind.u64.wrap (a0_0)) then (spec_l05Union.l0 k 1 a0_0 a0_1 a0_2 a0_3 a1_0 a1_1 a1_2 a1_3 (wrap64 (a0_0+a1_0)) a0_1 (Go.bits .or .i64 a0_2 (shl .i64 a1_2 (IntKind.u64.wrap (a0_0)))) (Go.bits .or .i64 a0_3 (shl .i64 a1_3 (IntKind.u64.wrap (a0_0))))) else (none)
theorem spec_l05Union.calls (k:Nat) (a0_0:Int) (a0_1:Int) (a0_2:Int) (a0_3:Int) (a1_0:Int) (a1_1:Int) (a1_2:Int) (a1_3:Int) (r1:Int) (r2:Int) (r3:Int) (r4:Int) (w:World) (h:spec_l05Union.f k a0_0 a0_1 a0_2 a0_3 a1_0 a1_1 a1_2 a1_3=some (r1,r2,r3,r4)):
 Calls Tryz.prog 80 #[.agg #[.int .i64 a0_0,.int .i64 a0_1,.int .i64 a0_2,.int .i64 a0_3],.agg #[.int .i64 a1_0,.int .i64 a1_1,.int .i64 a1_2,.int .i64 a1_3]] w fun e w'=>e=.returned (.agg #[.int .i64 r1,.int .i64 r2,.int .i64 r3,.int .i64 r4])∧Below w.heap.size w w':=by
 have hu25:=Tryz.underlying25
 have HB:=Aside0.mk (Below.refl w.heap.size w)
 have H:(if 0≤(IntKind.u64.wrap (a0_0)) then (spec_l05Union.l0 k 1 a0_0 a0_1 a0_2 a0_3 a1_0 a1_1 a1_2 a1_3 (wrap64 (a0_0+a1_0)) a0_1 (Go.bits .or .i64 a0_2 (shl .i64 a1_2 (IntKind.u64.wrap (a0_0)))) (Go.bits .or .i64 a0_3 (shl .i64 a1_3 (IntKind.u64.wrap (a0_0))))) else (none))=some (r1,r2,r3,r4):=h
 clear h
 obtain ⟨ji3,hji3⟩:=zj (IntKind.u64.wrap (a0_0))
 (first|rw [hji3] at H|simp only [hji3] at H)
 by_cases c4:0≤(ji3)
 ·rw [if_pos c4] at H
  have c4b0:=eq_true c4
  have c4b1:=decide_eq_true c4
  clear c4
  obtain ⟨ji5,hji5⟩:=zj (shl .i64 a1_2 (ji3))
  (first|rw [hji5] at H|simp only [hji5] at H)
  have hji5_:(IntKind.i64.wrap (a1_2*2 ^ min (ji3).toNat 64))=ji5:=hji5
  have hji5z:(ji3)≤64→(IntKind.i64.wrap (a1_2*2 ^ (ji3).toNat))=ji5:=shl_small hji5
  have hji5y:(wrap64 (a1_2*2 ^ min (ji3).toNat 64))=ji5:=(i64_w _).symm.trans hji5_
  have hji5x:(ji3)≤64→(wrap64 (a1_2*2 ^ (ji3).toNat))=ji5:=fun h_=>(i64_w _).symm.trans (hji5z h_)
  have c6b0:=eq_true (zo:0≤(ji3))
  obtain ⟨ji7,hji7⟩:=zj (shl .i64 a1_3 (ji3))
  (first|rw [hji7] at H|simp only [hji7] at H)
  have hji7_:(IntKind.i64.wrap (a1_3*2 ^ min (ji3).toNat 64))=ji7:=hji7
  have hji7z:(ji3)≤64→(IntKind.i64.wrap (a1_3*2 ^ (ji3).toNat))=ji7:=shl_small hji7
  have hji7y:(wrap64 (a1_3*2 ^ min (ji3).toNat 64))=ji7:=(i64_w _).symm.trans hji7_
  have hji7x:(ji3)≤64→(wrap64 (a1_3*2 ^ (ji3).toNat))=ji7:=fun h_=>(i64_w _).symm.trans (hji7z h_)
  have H':=Aside0.mk H
  clear H
  go_enter Tryz.func80,Tryz.ntmps80
  go_wp2_with (first|((with_reducible refine gate_dst (N:=2) rfl ?_);refine zX 2 #[.int .i64 a0_0,.int .i64 a0_1,.int .i64 a0_2,.int .i64 a0_3] 25 ?_;intro gb185 hg w8 hbox hb;refine zA4 (below_step (zH HB.1) hb) (hbox) (zs hg HB:w.heap.size≤gb185) (zs hg HB:w.heap.size≤gb185) ?_;clear HB;intro HB BK185 GW185 GE185;clear hb hbox hg)|((with_reducible refine gate_dst (N:=3) rfl ?_);refine zX 3 #[.int .i64 a1_0,.int .i64 a1_1,.int .i64 a1_2,.int .i64 a1_3] 25 ?_;intro gb186 hg w9 hbox hb;refine zA7 (zY BK185.1 hb) (below_step (zH1 HB.1 GE185.1) hb) (hbox) ((zS hg (below_size (zH1 HB.1 GE185.1)):w.heap.size≤gb186)) ((zS hg (below_size (zH1 HB.1 GE185.1)):w.heap.size≤gb186)) ((zl hg (blk_lt (g:=gb185) (o:=.cells #[.int .i64 a0_0,.int .i64 a0_1,.int .i64 a0_2,.int .i64 a0_3] 25 (0,0)) (zB BK185.1)):gb185≠gb186)) ((zg hg (blk_lt (g:=gb185) (o:=.cells #[.int .i64 a0_0,.int .i64 a0_1,.int .i64 a0_2,.int .i64 a0_3] 25 (0,0)) (zB BK185.1)):gb186≠gb185)) ?_;clear BK185 HB;intro BK185 HB BK186 GW186 GE186 NB185_186 NB186_185;clear hb hbox hg)|((with_reducible refine gate_dst (N:=4) rfl ?_);refine zX 4 #[.int .i64 0,.int .i64 0,.int .i64 0,.int .i64 0] 25 ?_;intro gb187 hg w10 hbox hb;refine zA10 (zY BK185.1 hb) (zY BK186.1 hb) (below_step (zH2 HB.1 GE185.1 GE186.1) hb) (hbox) ((zS hg (below_size (zH2 HB.1 GE185.1 GE186.1)):w.heap.size≤gb187)) ((zS hg (below_size (zH2 HB.1 GE185.1 GE186.1)):w.heap.size≤gb187)) ((zl hg (blk_lt (g:=gb185) (o:=.cells #[.int .i64 a0_0,.int .i64 a0_1,.int .i64 a0_2,.int .i64 a0_3] 25 (0,0)) (zB BK185.1)):gb185≠gb187)) ((zg hg (blk_lt (g:=gb185) (o:=.cells #[.int .i64 a0_0,.int .i64 a0_1,.int .i64 a0_2,.int .i64 a0_3] 25 (0,0)) (zB BK185.1)):gb187≠gb185)) ((zl hg (blk_lt (g:=gb186) (o:=.cells #[.int .i64 a1_0,.int .i64 a1_1,.int .i64 a1_2,.int .i64 a1_3] 25 (0,0)) (zB BK186.1)):gb186≠gb187)) ((zg hg (blk_lt (g:=gb186) (o:=.cells #[.int .i64 a1_0,.int .i64 a1_1,.int .i64 a1_2,.int .i64 a1_3] 25 (0,0)) (zB BK186.1)):gb187≠gb186)) ?_;clear BK185 BK186 HB;intro BK185 BK186 HB BK187 GW187 GE187 NB185_187 NB187_185 NB186_187 NB187_186;clear hb hbox hg;have hnb11:=NB185_186.1;have hnc11:=NB186_185.1;have hnb12:=NB185_187.1;have hnc12:=NB187_185.1;obtain ⟨Z13_0,Z13_1,Z13_2,Z13_3⟩:=zc4 BK185;obtain ⟨V13_0,V13_1,V13_2,V13_3⟩:=zf4 BK185;have hnb14:=NB186_187.1;have hnc14:=NB187_186.1;obtain ⟨Z15_0,Z15_1,Z15_2,Z15_3⟩:=zc4 BK186;obtain ⟨V15_0,V15_1,V15_2,V15_3⟩:=zf4 BK186)|((with_reducible refine gate_dst (N:=5) rfl ?_);refine zX 5 #[.int .i64 0,.int .i64 0,.int .i64 0,.int .i64 0] 25 ?_;intro gb188 hg w16 hbox hb;refine zA13 (zY BK185.1 hb) (zY BK186.1 hb) (zY BK187.1 hb) (below_step (zH3 HB.1 GE185.1 GE186.1 GE187.1) hb) (hbox) ((zS hg (below_size (zH3 HB.1 GE185.1 GE186.1 GE187.1)):w.heap.size≤gb188)) ((zS hg (below_size (zH3 HB.1 GE185.1 GE186.1 GE187.1)):w.heap.size≤gb188)) ((zl hg (blk_lt (g:=gb185) (o:=.cells #[.int .i64 a0_0,.int .i64 a0_1,.int .i64 a0_2,.int .i64 a0_3] 25 (0,0)) (zB BK185.1)):gb185≠gb188)) ((zg hg (blk_lt (g:=gb185) (o:=.cells #[.int .i64 a0_0,.int .i64 a0_1,.int .i64 a0_2,.int .i64 a0_3] 25 (0,0)) (zB BK185.1)):gb188≠gb185)) ((zl hg (blk_lt (g:=gb186) (o:=.cells #[.int .i64 a1_0,.int .i64 a1_1,.int .i64 a1_2,.int .i64 a1_3] 25 (0,0)) (zB BK186.1)):gb186≠gb188)) ((zg hg (blk_lt (g:=gb186) (o:=.cells #[.int .i64 a1_0,.int .i64 a1_1,.int .i64 a1_2,.int .i64 a1_3] 25 (0,0)) (zB BK186.1)):gb188≠gb186)) ((zl hg (blk_lt (g:=gb187) (o:=.cells #[.int .i64 0,.int .i64 0,.int .i64 0,.int .i64 0] 25 (0,0)) (zB BK187.1)):gb187≠gb188)) ((zg hg (blk_lt (g:=gb187) (o:=.cells #[.int .i64 0,.int .i64 0,.int .i64 0,.int .i64 0] 25 (0,0)) (zB BK187.1)):gb188≠gb187)) ?_;clear BK185 BK186 BK187 HB;intro BK185 BK186 BK187 HB BK188 GW188 GE188 NB185_188 NB188_185 NB186_188 NB188_186 NB187_188 NB188_187;clear hb hbox hg;have hnb17:=NB188_185.1;have hnc17:=NB185_188.1;have hnb18:=NB188_186.1;have hnc18:=NB186_188.1;have hnb19:=NB188_187.1;have hnc19:=NB187_188.1;obtain ⟨Z20_0,Z20_1,Z20_2,Z20_3⟩:=zc4 BK188;obtain ⟨V20_0,V20_1,V20_2,V20_3⟩:=zf4 BK188))
  go_loopg [6] k (fun kq v6 w'=>∃ (x6_1:Int) (x189001_1:Int),v6=.int .i64 x6_1∧Aside0 (spec_l05Union.l0 kq x6_1 a0_0 a0_1 a0_2 a0_3 a1_0 a1_1 a1_2 a1_3 (wrap64 (a0_0+a1_0)) x189001_1 (Go.bits .or .i64 a0_2 (ji5)) (Go.bits .or .i64 a0_3 (ji7))=some (r1,r2,r3,r4))∧Aside0 (kq≤k)∧Aside0 (w'.heap[gb185]?=some (.cells #[.int .i64 a0_0,.int .i64 a0_1,.int .i64 a0_2,.int .i64 a0_3] 25 (0,0)))∧Aside0 (w'.heap[gb186]?=some (.cells #[.int .i64 a1_0,.int .i64 a1_1,.int .i64 a1_2,.int .i64 a1_3] 25 (0,0)))∧Aside0 (w'.heap[gb187]?=some (.cells #[.int .i64 0,.int .i64 0,.int .i64 0,.int .i64 0] 25 (0,0)))∧Aside0 (w'.heap[gb188]?=some (.cells #[.int .i64 (wrap64 (a0_0+a1_0)),.int .i64 x189001_1,.int .i64 (Go.bits .or .i64 a0_2 (ji5)),.int .i64 (Go.bits .or .i64 a0_3 (ji7))] 25 (0,0)))∧Aside0 (Below w.heap.size w w'))
  case atStart=>exact ⟨(1),(a0_1),(zF),H',⟨Nat.le_refl _⟩,⟨zQ1 BK185.1 NB185_188.1⟩,⟨zQ1 BK186.1 NB186_188.1⟩,⟨zQ1 BK187.1 NB187_188.1⟩,⟨zQ BK188.1⟩,⟨zH4 HB.1 GE185.1 GE186.1 GE187.1 GE188.1⟩⟩
  case round=>
   clear H'
   try clear c1
   try clear p2
   try clear c4
   try clear c4b0
   try clear c4b1
   try clear c6
   try clear c6b0
   try clear p6
   try clear c8
   try clear c11
   try clear c12
   try clear c14
   try clear c17
   try clear c18
   try clear c19
   try clear Z13_0 Z13_1 Z13_2 Z13_3
   try clear Z15_0 Z15_1 Z15_2 Z15_3
   try clear Z20_0 Z20_1 Z20_2 Z20_3
   try clear V13_0 V13_1 V13_2 V13_3
   try clear V15_0 V15_1 V15_2 V15_3
   try clear V20_0 V20_1 V20_2 V20_3
   obtain ⟨x6_1,x189001_1,rfl,HA,HK1,BK185,BK186,BK187,BK188,HB⟩:=hrel
   cases gk with
   |zero=>exact absurd HA.1 (by simp [spec_l05Union.l0])
   |succ k1=>
    have H:=HA.1
    clear HA
    simp only [spec_l05Union.l0] at H
    by_cases c21:x6_1<a1_0
    ·rw [if_pos c21] at H
     have c21b0:=decide_eq_true c21
     clear c21
     have H':=Aside0.mk H
     clear H
     have hnb22:=NB186_185.1
     have hnc22:=NB185_186.1
     have hnb23:=NB186_187.1
     have hnc23:=NB187_186.1
     have hnb24:=NB186_188.1
     have hnc24:=NB188_186.1
     obtain ⟨Z25_0,Z25_1,Z25_2,Z25_3⟩:=zc4 BK186
     obtain ⟨V25_0,V25_1,V25_2,V25_3⟩:=zf4 BK186
     go_wp2
     go_loopg [7] k1 (fun kq v7 w'=>∃ (x7_2:Int) (x189001_2:Int),v7=.int .i64 x7_2∧Aside0 (spec_l05Union.l1 kq x6_1 x7_2 a0_0 a0_1 a0_2 a0_3 a1_0 a1_1 a1_2 a1_3 (wrap64 (a0_0+a1_0)) x189001_2 (Go.bits .or .i64 a0_2 (ji5)) (Go.bits .or .i64 a0_3 (ji7))=some (r1,r2,r3,r4))∧Aside0 (kq≤k1)∧Aside0 (w'.heap[gb185]?=some (.cells #[.int .i64 a0_0,.int .i64 a0_1,.int .i64 a0_2,.int .i64 a0_3] 25 (0,0)))∧Aside0 (w'.heap[gb186]?=some (.cells #[.int .i64 a1_0,.int .i64 a1_1,.int .i64 a1_2,.int .i64 a1_3] 25 (0,0)))∧Aside0 (w'.heap[gb187]?=some (.cells #[.int .i64 0,.int .i64 0,.int .i64 0,.int .i64 0] 25 (0,0)))∧Aside0 (w'.heap[gb188]?=some (.cells #[.int .i64 (wrap64 (a0_0+a1_0)),.int .i64 x189001_2,.int .i64 (Go.bits .or .i64 a0_2 (ji5)),.int .i64 (Go.bits .or .i64 a0_3 (ji7))] 25 (0,0)))∧Aside0 (Below w.heap.size w w'))
     case atStart=>exact ⟨(0),(x189001_1),(zF),H',⟨Nat.le_refl _⟩,⟨zB BK185.1⟩,⟨zB BK186.1⟩,⟨zB BK187.1⟩,⟨zB BK188.1⟩,⟨zH4 HB.1 GE185.1 GE186.1 GE187.1 GE188.1⟩⟩
     case round=>
      clear H'
      try clear c1
      try clear c2
      try clear p2
      try clear c4
      try clear c4b0
      try clear c4b1
      try clear c6
      try clear c6b0
      try clear p6
      try clear c8
      try clear c11
      try clear c12
      try clear c14
      try clear c17
      try clear c18
      try clear c19
      try clear c21
      try clear c21b0
      try clear c22
      try clear c23
      try clear c24
      try clear Z13_0 Z13_1 Z13_2 Z13_3
      try clear Z15_0 Z15_1 Z15_2 Z15_3
      try clear Z20_0 Z20_1 Z20_2 Z20_3
      try clear Z25_0 Z25_1 Z25_2 Z25_3
      try clear V13_0 V13_1 V13_2 V13_3
      try clear V15_0 V15_1 V15_2 V15_3
      try clear V20_0 V20_1 V20_2 V20_3
      try clear V25_0 V25_1 V25_2 V25_3
      try clear p2
      try clear p6
      obtain ⟨x7_2,x189001_2,rfl,HA,HK2,BK185,BK186,BK187,BK188,HB⟩:=hrel
      cases gk with
      |zero=>exact absurd HA.1 (by simp [spec_l05Union.l1])
      |succ k2=>
       have H:=HA.1
       clear HA
       simp only [spec_l05Union.l1] at H
       by_cases c26:x7_2<x6_1
       ·rw [if_pos c26] at H
        have c26b0:=decide_eq_true c26
        clear c26
        obtain ⟨t189,A27,H⟩:=zb H
        by_cases c28:t189=true
        ·subst c28
         have H1:(if 0≤(IntKind.u64.wrap (wrap64 ((wrap64 ((wrap64 (Int.tdiv (wrap64 ((wrap64 (x6_1+a0_0))*(wrap64 ((wrap64 (x6_1+a0_0))-1)))) 2))+x7_2))+a0_0))) then (spec_l05Union.l1 k2 x6_1 (wrap64 (x7_2+1)) a0_0 a0_1 a0_2 a0_3 a1_0 a1_1 a1_2 a1_3 (wrap64 (a0_0+a1_0)) (Go.bits .or .i64 x189001_2 (shl .i64 1 (IntKind.u64.wrap (wrap64 ((wrap64 ((wrap64 (Int.tdiv (wrap64 ((wrap64 (x6_1+a0_0))*(wrap64 ((wrap64 (x6_1+a0_0))-1)))) 2))+x7_2))+a0_0))))) (Go.bits .or .i64 a0_2 (ji5)) (Go.bits .or .i64 a0_3 (ji7))) else (none))=some (r1,r2,r3,r4):=by rw [if_pos rfl] at H;exact H
         clear H
         have H:=H1
         clear H1
         obtain ⟨ji29,hji29⟩:=zj (IntKind.u64.wrap (wrap64 ((wrap64 ((wrap64 (Int.tdiv (wrap64 ((wrap64 (x6_1+a0_0))*(wrap64 ((wrap64 (x6_1+a0_0))-1)))) 2))+x7_2))+a0_0)))
         (first|rw [hji29] at H|simp only [hji29] at H)
         (try rw [hji29] at A27)
         by_cases c30:0≤(ji29)
         ·rw [if_pos c30] at H
          have c30b0:=eq_true c30
          have c30b1:=decide_eq_true c30
          clear c30
          obtain ⟨ji31,hji31⟩:=zj (shl .i64 1 (ji29))
          (first|rw [hji31] at H|simp only [hji31] at H)
          (try rw [hji31] at A27)
          have hji31_:(IntKind.i64.wrap (1*2 ^ min (ji29).toNat 64))=ji31:=hji31
          have hji31z:(ji29)≤64→(IntKind.i64.wrap (1*2 ^ (ji29).toNat))=ji31:=shl_small hji31
          have hji31u:(IntKind.i64.wrap (2 ^ min (ji29).toNat 64))=ji31:=by have h_:=hji31_;rw [Int.one_mul] at h_;exact h_
          have hji31v:(ji29)≤64→(IntKind.i64.wrap (2 ^ (ji29).toNat))=ji31:=fun hle_=>by have h_:=hji31z hle_;rw [Int.one_mul] at h_;exact h_
          have hji31y:(wrap64 (1*2 ^ min (ji29).toNat 64))=ji31:=(i64_w _).symm.trans hji31_
          have hji31x:(ji29)≤64→(wrap64 (1*2 ^ (ji29).toNat))=ji31:=fun h_=>(i64_w _).symm.trans (hji31z h_)
          have H':=Aside0.mk H
          clear H
          have hnb32:=NB186_185.1
          have hnc32:=NB185_186.1
          have hnb33:=NB186_187.1
          have hnc33:=NB187_186.1
          have hnb34:=NB186_188.1
          have hnc34:=NB188_186.1
          obtain ⟨Z35_0,Z35_1,Z35_2,Z35_3⟩:=zc4 BK186
          obtain ⟨V35_0,V35_1,V35_2,V35_3⟩:=zf4 BK186
          go_wp2_with (first|((with_reducible refine gate_callee (f:=84) rfl ?_);refine zL (some 49) Tryz.func84 #[.agg #[.int .i64 a1_0,.int .i64 a1_1,.int .i64 a1_2,.int .i64 a1_3],.int .i64 x7_2,.int .i64 x6_1] ?_;(with_reducible refine (spec_l05Joined.calls a1_0 a1_1 a1_2 a1_3 x7_2 x6_1 true _ A27.1).mono ?_);rintro e w36 ⟨rfl,hb⟩;refine ⟨_,rfl,?_⟩;refine zA5 (zY BK185.1 hb) (zY BK186.1 hb) (zY BK187.1 hb) (zY BK188.1 hb) (below_step (zH4 HB.1 GE185.1 GE186.1 GE187.1 GE188.1) hb) ?_;clear BK185 BK186 BK187 BK188 HB;intro BK185 BK186 BK187 BK188 HB;(try clear hb);have hnb37:=NB185_187.1;have hnc37:=NB187_185.1;have hnb38:=NB185_188.1;have hnc38:=NB188_185.1;obtain ⟨Z39_0,Z39_1,Z39_2,Z39_3⟩:=zc4 BK185;obtain ⟨V39_0,V39_1,V39_2,V39_3⟩:=zf4 BK185;have hnb40:=NB188_187.1;have hnc40:=NB187_188.1;obtain ⟨Z41_0,Z41_1,Z41_2,Z41_3⟩:=zc4 BK188;obtain ⟨V41_0,V41_1,V41_2,V41_3⟩:=zf4 BK188))
          go_roundg k2
          case measure=>have:=HK1.1;have:=HK2.1;omega
          case rel=>exact ⟨(wrap64 (x7_2+1)),(Go.bits .or .i64 x189001_2 (ji31)),(zF),H',⟨by have:=HK1.1;have:=HK2.1;omega⟩,⟨zQ1 BK185.1 NB185_188.1⟩,⟨zQ1 BK186.1 NB186_188.1⟩,⟨zQ1 BK187.1 NB187_188.1⟩,⟨zQ BK188.1⟩,⟨zH4 HB.1 GE185.1 GE186.1 GE187.1 GE188.1⟩⟩
         ·rw [if_neg c30] at H
          exact absurd H (by simp)
        ·replace c28:=Bool.eq_false_iff.mpr c28
         subst c28
         have H1:(spec_l05Union.l1 k2 x6_1 (wrap64 (x7_2+1)) a0_0 a0_1 a0_2 a0_3 a1_0 a1_1 a1_2 a1_3 (wrap64 (a0_0+a1_0)) x189001_2 (Go.bits .or .i64 a0_2 (ji5)) (Go.bits .or .i64 a0_3 (ji7)))=some (r1,r2,r3,r4):=by rw [if_neg (show ¬ (false=true) by decide)] at H;exact H
         clear H
         have H:=H1
         clear H1
         have H':=Aside0.mk H
         clear H
         have hnb42:=NB186_185.1
         have hnc42:=NB185_186.1
         have hnb43:=NB186_187.1
         have hnc43:=NB187_186.1
         have hnb44:=NB186_188.1
         have hnc44:=NB188_186.1
         obtain ⟨Z45_0,Z45_1,Z45_2,Z45_3⟩:=zc4 BK186
         obtain ⟨V45_0,V45_1,V45_2,V45_3⟩:=zf4 BK186
         go_wp2_with (first|((with_reducible refine gate_callee (f:=84) rfl ?_);refine zL (some 49) Tryz.func84 #[.agg #[.int .i64 a1_0,.int .i64 a1_1,.int .i64 a1_2,.int .i64 a1_3],.int .i64 x7_2,.int .i64 x6_1] ?_;(with_reducible refine (spec_l05Joined.calls a1_0 a1_1 a1_2 a1_3 x7_2 x6_1 false _ A27.1).mono ?_);rintro e w46 ⟨rfl,hb⟩;refine ⟨_,rfl,?_⟩;refine zA5 (zY BK185.1 hb) (zY BK186.1 hb) (zY BK187.1 hb) (zY BK188.1 hb) (below_step (zH4 HB.1 GE185.1 GE186.1 GE187.1 GE188.1) hb) ?_;clear BK185 BK186 BK187 BK188 HB;intro BK185 BK186 BK187 BK188 HB;(try clear hb)))
         go_roundg k2
         case measure=>have:=HK1.1;have:=HK2.1;omega
         case rel=>exact ⟨(wrap64 (x7_2+1)),(x189001_2),(zF),H',⟨by have:=HK1.1;have:=HK2.1;omega⟩,⟨zB BK185.1⟩,⟨zB BK186.1⟩,⟨zB BK187.1⟩,⟨zB BK188.1⟩,⟨zH4 HB.1 GE185.1 GE186.1 GE187.1 GE188.1⟩⟩
       ·rw [if_neg c26] at H
        have c26b0:=decide_eq_false c26
        clear c26
        have H':=Aside0.mk H
        clear H
        go_wp2
        go_roundg k2
        case measure=>have:=HK1.1;have:=HK2.1;omega
        case rel=>exact ⟨(wrap64 (x6_1+1)),(x189001_2),(zF),H',⟨by have:=HK1.1;have:=HK2.1;omega⟩,⟨zB BK185.1⟩,⟨zB BK186.1⟩,⟨zB BK187.1⟩,⟨zB BK188.1⟩,⟨zH4 HB.1 GE185.1 GE186.1 GE187.1 GE188.1⟩⟩
    ·rw [if_neg c21] at H
     have c21b0:=decide_eq_false c21
     clear c21
     simp only [Option.some.injEq,Prod.mk.injEq] at H
     obtain ⟨rfl,rfl,rfl,rfl⟩:=H
     have hnb47:=NB186_185.1
     have hnc47:=NB185_186.1
     have hnb48:=NB186_187.1
     have hnc48:=NB187_186.1
     have hnb49:=NB186_188.1
     have hnc49:=NB188_186.1
     obtain ⟨Z50_0,Z50_1,Z50_2,Z50_3⟩:=zc4 BK186
     obtain ⟨V50_0,V50_1,V50_2,V50_3⟩:=zf4 BK186
     have hnb51:=NB188_185.1
     have hnc51:=NB185_188.1
     have hnb52:=NB188_187.1
     have hnc52:=NB187_188.1
     obtain ⟨Z53_0,Z53_1,Z53_2,Z53_3⟩:=zc4 BK188
     obtain ⟨V53_0,V53_1,V53_2,V53_3⟩:=zf4 BK188
     have hnb54:=NB187_185.1
     have hnc54:=NB185_187.1
     obtain ⟨Z55_0,Z55_1,Z55_2,Z55_3⟩:=zc4 BK187
     obtain ⟨V55_0,V55_1,V55_2,V55_3⟩:=zf4 BK187
     go_wp2
     refine bodyPost_ret (results_cell_row rfl _ _ gb187 25 #[.int .i64 (wrap64 (a0_0+a1_0)),.int .i64 x189001_1,.int .i64 (Go.bits .or .i64 a0_2 (ji5)),.int .i64 (Go.bits .or .i64 a0_3 (ji7))] (0,0) _ rfl (zQ BK187.1) Tryz.underlying25 rfl (by kernel_rfl)) rfl ?_
     exact ⟨by first|rfl|(simp [errW_none,errW_some] <;> rfl)|(simp only [← hji3,← hji5,← hji7];first|rfl|(simp [errW_none,errW_some] <;> rfl))|(simp [*,errW_none,errW_some] <;> rfl),zH4 HB.1 GE185.1 GE186.1 GE187.1 GE188.1⟩
 ·rw [if_neg c4] at H
  exact absurd H (by simp)
def spec_l05Twice.f (k:Nat) (s0_0:List Int) (s0_1:Int) (s0_2:Int) (a1:Int):Option (Int×Int×Int×Int×Int×Int):=(spec_l01Next.f s0_0 s0_1 s0_2 4).bind fun bt191=>((spec_l05Draw.f k s0_0 bt191.2.1 bt191.2.2 (wrap64 (1+bt191.1)) a1).bind fun bt194=>((spec_l05Union.f k bt194.1 bt194.2.1 bt194.2.2.1 bt194.2.2.2.1 bt194.1 bt194.2.1 bt194.2.2.2.1 bt194.2.2.1).bind fun bt201=>(some (bt201.1,bt201.2.1,bt201.2.2.1,bt201.2.2.2,bt194.2.2.2.2.1,bt194.2.2.2.2.2))))
theorem spec_l05Twice.calls (k:Nat) (g:Nat) (s0_0:List Int) (s0_1:Int) (s0_2:Int) (a1:Int) (r1:Int) (r2:Int) (r3:Int) (r4:Int) (r5:Int) (r6:Int) (w0 w:World) (hI:IsS115 w0 w g s0_0 s0_1 s0_2) (hB:Below w0.heap.size w0 w) (h:spec_l05Twice.f k s0_0 s0_1 s0_2 a1=some (r1,r2,r3,r4,r5,r6)):
 Calls Tryz.prog 44 #[.pointer (some ⟨g,0,none⟩),.int .i64 a1] w fun e w'=>e=.returned (.agg #[.int .i64 r1,.int .i64 r2,.int .i64 r3,.int .i64 r4])∧IsS115 w0 w' g s0_0 r5 r6∧Below w0.heap.size w0 w'∧KeepBut w w' g none:=by
 have hu25:=Tryz.underlying25
 have HI0:=Aside0.mk hI
 have HK:=Aside0.mk (KeepBut.refl w g none)
 have HL:=Aside0.mk hB.size
 clear hI
 have HW0:=Aside0.mk hB.size
 have HB:=Aside0.mk hB
 clear hB
 have H:((spec_l01Next.f s0_0 s0_1 s0_2 4).bind fun bt191=>((spec_l05Draw.f k s0_0 bt191.2.1 bt191.2.2 (wrap64 (1+bt191.1)) a1).bind fun bt194=>((spec_l05Union.f k bt194.1 bt194.2.1 bt194.2.2.1 bt194.2.2.2.1 bt194.1 bt194.2.1 bt194.2.2.2.1 bt194.2.2.1).bind fun bt201=>(some (bt201.1,bt201.2.1,bt201.2.2.1,bt201.2.2.2,bt194.2.2.2.2.1,bt194.2.2.2.2.2)))))=some (r1,r2,r3,r4,r5,r6):=h
 clear h
 obtain ⟨⟨t191,t192,t193⟩,A3,H⟩:=zb H;(try dsimp only at H)
 obtain ⟨⟨t194,t195,t196,t197,t198,t199⟩,A4,H⟩:=zb H;(try dsimp only at H)
 obtain ⟨⟨t201,t202,t203,t204⟩,A5,H⟩:=zb H;(try dsimp only at H)
 simp only [Option.some.injEq,Prod.mk.injEq] at H
 obtain ⟨rfl,rfl,rfl,rfl,rfl,rfl⟩:=H
 go_enter Tryz.func44,Tryz.ntmps44
 go_wp2_with (first|((with_reducible refine gate_dst (N:=4) rfl ?_);refine zX 4 #[.int .i64 0,.int .i64 0,.int .i64 0,.int .i64 0] 25 ?_;intro gb190 hg w6 hbox hb;refine zA8 (IsS115.below (zI HI0.1) hb) (KeepBut.trans (zJ HK.1) (KeepBut.of_below hb g none) (.inl rfl)) (below_step (zH1 HB.1 (IsS115.ge HI0.1)) hb) (hbox) ((by rw [hg];exact (keep_size (w:=w) (g:=g) (row:=none) (zJ HK.1)):w.heap.size≤gb190)) ((Nat.le_trans HW0.1 (by rw [hg];exact (keep_size (w:=w) (g:=g) (row:=none) (zJ HK.1)):w.heap.size≤gb190):w0.heap.size≤gb190)) ((zl hg (IsS115.lt (show IsS115 w0 _ g s0_0 s0_1 s0_2 from zI HI0.1)):g≠gb190)) ((zg hg (IsS115.lt (show IsS115 w0 _ g s0_0 s0_1 s0_2 from zI HI0.1)):gb190≠g)) ?_;clear HI0 HK HB;intro HI0 HK HB BK190 GW190 GE190 NB0_190 NB190_0;clear hb hbox hg)|((with_reducible refine gate_callee (f:=42) rfl ?_);refine zL (some 8) Tryz.func42 #[.pointer (some ⟨g,0,none⟩),.int .i64 4] ?_;(with_reducible refine (spec_l01Next.calls g s0_0 s0_1 s0_2 4 t191 t192 t193 w0 _ ?side1 ?side2 A3.1).mono ?_);(case side1=>exact zI1 HI0.1 NB0_190.1);(case side2=>exact zH2 HB.1 (IsS115.ge HI0.1) GE190.1);rintro e w7 ⟨rfl,hi,hb,hk⟩;refine ⟨_,rfl,?_⟩;refine zA4 (zYk hk BK190.1 NB190_0.1) (KeepBut.trans (zJ1 HK.1 GW190.1) hk (.inl rfl)) (hb) (hi) ?_;clear BK190 HK HB HI0;intro BK190 HK HB HI0;(try clear hb);(try clear hk);(try clear hi))|((with_reducible refine gate_callee (f:=79) rfl ?_);refine zL (some 11) Tryz.func79 #[.pointer (some ⟨g,0,none⟩),.int .i64 (wrap64 (1+t191)),.int .i64 a1] ?_;(with_reducible refine (spec_l05Draw.calls k g s0_0 t192 t193 (wrap64 (1+t191)) a1 t194 t195 t196 t197 t198 t199 w0 _ ?side1 ?side2 A4.1).mono ?_);(case side1=>exact zI1 HI0.1 NB0_190.1);(case side2=>exact zH2 HB.1 (IsS115.ge HI0.1) GE190.1);rintro e w8 ⟨rfl,hi,hb,hk⟩;refine ⟨_,rfl,?_⟩;refine zA4 (zYk hk BK190.1 NB190_0.1) (KeepBut.trans (zJ1 HK.1 GW190.1) hk (.inl rfl)) (hb) (hi) ?_;clear BK190 HK HB HI0;intro BK190 HK HB HI0;(try clear hb);(try clear hk);(try clear hi))|((with_reducible refine gate_dst (N:=5) rfl ?_);refine zX 5 #[.int .i64 0,.int .i64 0,.int .i64 0,.int .i64 0] 25 ?_;intro gb200 hg w9 hbox hb;refine zA11 (IsS115.below (zI1 HI0.1 NB0_190.1) hb) (zY BK190.1 hb) (KeepBut.trans (zJ1 HK.1 GW190.1) (KeepBut.of_below hb g none) (.inl rfl)) (below_step (zH2 HB.1 (IsS115.ge HI0.1) GE190.1) hb) (hbox) ((by rw [hg];exact (keep_size (w:=w) (g:=g) (row:=none) (zJ1 HK.1 GW190.1)):w.heap.size≤gb200)) ((Nat.le_trans HW0.1 (by rw [hg];exact (keep_size (w:=w) (g:=g) (row:=none) (zJ1 HK.1 GW190.1)):w.heap.size≤gb200):w0.heap.size≤gb200)) ((zl hg (blk_lt (g:=gb190) (o:=.cells #[.int .i64 0,.int .i64 0,.int .i64 0,.int .i64 0] 25 (0,0)) (zB BK190.1)):gb190≠gb200)) ((zg hg (blk_lt (g:=gb190) (o:=.cells #[.int .i64 0,.int .i64 0,.int .i64 0,.int .i64 0] 25 (0,0)) (zB BK190.1)):gb200≠gb190)) ((zl hg (IsS115.lt (show IsS115 w0 _ g s0_0 t198 t199 from zI1 HI0.1 NB0_190.1)):g≠gb200)) ((zg hg (IsS115.lt (show IsS115 w0 _ g s0_0 t198 t199 from zI1 HI0.1 NB0_190.1)):gb200≠g)) ?_;clear HI0 BK190 HK HB;intro HI0 BK190 HK HB BK200 GW200 GE200 NB190_200 NB200_190 NB0_200 NB200_0;clear hb hbox hg;have hnb10:=NB200_190.1;have hnc10:=NB190_200.1;have hnb11:=NB200_0.1;have hnc11:=NB0_200.1;obtain ⟨Z12_0,Z12_1,Z12_2,Z12_3⟩:=zc4 BK200;obtain ⟨V12_0,V12_1,V12_2,V12_3⟩:=zf4 BK200)|((with_reducible refine gate_callee (f:=80) rfl ?_);refine zL (some 22) Tryz.func80 #[.agg #[.int .i64 t194,.int .i64 t195,.int .i64 t196,.int .i64 t197],.agg #[.int .i64 t194,.int .i64 t195,.int .i64 t197,.int .i64 t196]] ?_;(with_reducible refine (spec_l05Union.calls k t194 t195 t196 t197 t194 t195 t197 t196 t201 t202 t203 t204 _ A5.1).mono ?_);rintro e w13 ⟨rfl,hb⟩;refine ⟨_,rfl,?_⟩;refine zA5 (IsS115.below (show IsS115 w0 ((((w9.setCell ⟨gb200,0,none⟩ (.int .i64 t194)).setCell ⟨gb200,1,none⟩ (.int .i64 t195)).setCell ⟨gb200,2,none⟩ (.int .i64 t196)).setCell ⟨gb200,3,none⟩ (.int .i64 t197)) g s0_0 t198 t199 from zI2 HI0.1 NB0_190.1 NB0_200.1) hb) (blk_below (g:=gb190) (o:=.cells #[.int .i64 0,.int .i64 0,.int .i64 0,.int .i64 0] 25 (0,0)) (zQ1 BK190.1 NB190_200.1) hb) (blk_below (g:=gb200) (o:=.cells #[.int .i64 t194,.int .i64 t195,.int .i64 t196,.int .i64 t197] 25 (0,0)) (zQ BK200.1) hb) (KeepBut.trans (zJ2 HK.1 GW190.1 GW200.1) (KeepBut.of_below hb g none) (.inl rfl)) (below_step (zH3 HB.1 (IsS115.ge HI0.1) GE190.1 GE200.1) hb) ?_;clear HI0 BK190 BK200 HK HB;intro HI0 BK190 BK200 HK HB;(try clear hb);(try clear hk);(try clear hi);have hnb14:=NB190_0.1;have hnc14:=NB0_190.1;obtain ⟨Z15_0,Z15_1,Z15_2,Z15_3⟩:=zc4 BK190;obtain ⟨V15_0,V15_1,V15_2,V15_3⟩:=zf4 BK190))
 refine bodyPost_ret (results_cell_row rfl _ _ gb190 25 #[.int .i64 t201,.int .i64 t202,.int .i64 t203,.int .i64 t204] (0,0) _ rfl (zQ BK190.1) Tryz.underlying25 rfl (by kernel_rfl)) rfl ?_
 exact ⟨zE,zI2 HI0.1 NB0_190.1 NB0_200.1,zH3 HB.1 (IsS115.ge HI0.1) GE190.1 GE200.1,zJ2 HK.1 GW190.1 GW200.1⟩
def spec_l05With.j0:Nat→Int→Int→List Int→Int→Int→Int→Int→Int→Int→Option (Int×Int×Int×Int×Int×Int×Int×Int)
 |0,_,_,_,_,_,_,_,_,_=>none
 |k+1,x5,x6,x1000,x1001,x1002,x228000,x228001,x228002,x228003=>(spec_l01Next.f x1000 x1001 x1002 30).bind fun bt237=>(if bt237.1=0 then ((spec_l01Pick.f x1000 bt237.2.1 bt237.2.2 (([(-1),2]:List Int))).bind fun bt243=>(some (x228000,x228001,x228002,x228003,bt243.1,x6,bt243.2.1,bt243.2.2))) else (if bt237.1=1 then ((spec_l01Pick.f x1000 bt237.2.1 bt237.2.2 (([(-1),2]:List Int))).bind fun bt249=>(some (x228000,x228001,x228002,x228003,x5,bt249.1,bt249.2.1,bt249.2.2))) else (some (x228000,x228001,x228002,x228003,x5,x6,bt237.2.1,bt237.2.2))))
def spec_l05With.f (k:Nat) (s0_0:List Int) (s0_1:Int) (s0_2:Int):Option (Int×Int×Int×Int×Int×Int×Int×Int):=(spec_l01Next.f s0_0 s0_1 s0_2 2).bind fun bt206=>((spec_l01Next.f s0_0 bt206.2.1 bt206.2.2 2).bind fun bt209=>((spec_l01Pick.f s0_0 bt209.2.1 bt209.2.2 (([4,6,7]:List Int))).bind fun bt215=>((spec_l01Next.f s0_0 bt215.2.1 bt215.2.2 bt215.1).bind fun bt218=>((spec_l05Draw.f k s0_0 bt218.2.1 bt218.2.2 (wrap64 (1+bt218.1)) bt206.1).bind fun bt221=>((spec_l01Next.f s0_0 bt221.2.2.2.2.1 bt221.2.2.2.2.2 5).bind fun bt228=>(if bt228.1=0 then ((spec_l05Twice.f k s0_0 bt228.2.1 bt228.2.2 bt206.1).bind fun bt231=>(spec_l05With.j0 k bt206.1 bt209.1 s0_0 bt231.2.2.2.2.1 bt231.2.2.2.2.2 bt231.1 bt231.2.1 bt231.2.2.1 bt231.2.2.2.1)) else (spec_l05With.j0 k bt206.1 bt209.1 s0_0 bt228.2.1 bt228.2.2 bt221.1 bt221.2.1 bt221.2.2.1 bt221.2.2.2.1)))))))
theorem spec_l05With.calls (k:Nat) (g:Nat) (s0_0:List Int) (s0_1:Int) (s0_2:Int) (r1:Int) (r2:Int) (r3:Int) (r4:Int) (r5:Int) (r6:Int) (r7:Int) (r8:Int) (w0 w:World) (hI:IsS115 w0 w g s0_0 s0_1 s0_2) (hB:Below w0.heap.size w0 w) (h:spec_l05With.f k s0_0 s0_1 s0_2=some (r1,r2,r3,r4,r5,r6,r7,r8)):
 Calls Tryz.prog 63 #[.pointer (some ⟨g,0,none⟩)] w fun e w'=>e=.returned (.tuple #[.agg #[.int .i64 r1,.int .i64 r2,.int .i64 r3,.int .i64 r4],.int .i64 r5,.int .i64 r6])∧IsS115 w0 w' g s0_0 r7 r8∧Below w0.heap.size w0 w'∧KeepBut w w' g none:=by
 have hu25:=Tryz.underlying25
 have HI0:=Aside0.mk hI
 have HK:=Aside0.mk (KeepBut.refl w g none)
 have HL:=Aside0.mk hB.size
 clear hI
 have HW0:=Aside0.mk hB.size
 have HB:=Aside0.mk hB
 clear hB
 have H:((spec_l01Next.f s0_0 s0_1 s0_2 2).bind fun bt206=>((spec_l01Next.f s0_0 bt206.2.1 bt206.2.2 2).bind fun bt209=>((spec_l01Pick.f s0_0 bt209.2.1 bt209.2.2 (([4,6,7]:List Int))).bind fun bt215=>((spec_l01Next.f s0_0 bt215.2.1 bt215.2.2 bt215.1).bind fun bt218=>((spec_l05Draw.f k s0_0 bt218.2.1 bt218.2.2 (wrap64 (1+bt218.1)) bt206.1).bind fun bt221=>((spec_l01Next.f s0_0 bt221.2.2.2.2.1 bt221.2.2.2.2.2 5).bind fun bt228=>(if bt228.1=0 then ((spec_l05Twice.f k s0_0 bt228.2.1 bt228.2.2 bt206.1).bind fun bt231=>(spec_l05With.j0 k bt206.1 bt209.1 s0_0 bt231.2.2.2.2.1 bt231.2.2.2.2.2 bt231.1 bt231.2.1 bt231.2.2.1 bt231.2.2.2.1)) else (spec_l05With.j0 k bt206.1 bt209.1 s0_0 bt228.2.1 bt228.2.2 bt221.1 bt221.2.1 bt221.2.2.1 bt221.2.2.2.1))))))))=some (r1,r2,r3,r4,r5,r6,r7,r8):=h
 clear h
 obtain ⟨⟨t206,t207,t208⟩,A2,H⟩:=zb H;(try dsimp only at H)
 obtain ⟨⟨t209,t210,t211⟩,A3,H⟩:=zb H;(try dsimp only at H)
 obtain ⟨y212,hy212⟩:∃ y_:List Int,y_=(([4,6,7]:List Int)):=⟨_,rfl⟩
 replace H:((spec_l01Pick.f s0_0 t210 t211 y212).bind fun bt215=>((spec_l01Next.f s0_0 bt215.2.1 bt215.2.2 bt215.1).bind fun bt218=>((spec_l05Draw.f k s0_0 bt218.2.1 bt218.2.2 (wrap64 (1+bt218.1)) t206).bind fun bt221=>((spec_l01Next.f s0_0 bt221.2.2.2.2.1 bt221.2.2.2.2.2 5).bind fun bt228=>(if bt228.1=0 then ((spec_l05Twice.f k s0_0 bt228.2.1 bt228.2.2 t206).bind fun bt231=>(spec_l05With.j0 k t206 t209 s0_0 bt231.2.2.2.2.1 bt231.2.2.2.2.2 bt231.1 bt231.2.1 bt231.2.2.1 bt231.2.2.2.1)) else (spec_l05With.j0 k t206 t209 s0_0 bt228.2.1 bt228.2.2 bt221.1 bt221.2.1 bt221.2.2.1 bt221.2.2.2.1))))))=some (r1,r2,r3,r4,r5,r6,r7,r8):=by first|(rw [hy212];with_reducible exact H)|(have H2_:=(Option.bind_some _ _).symm.trans H;rw [hy212];with_reducible exact H2_)|(have H2_:=(Option.bind_some _ _).symm.trans H;with_reducible exact H2_)|with_reducible exact H|(rw [hy212];exact H)|exact H
 have Ny212:=Aside0.mk hy212
 clear hy212
 obtain ⟨⟨t215,t216,t217⟩,A4,H⟩:=zb H;(try dsimp only at H)
 obtain ⟨⟨t218,t219,t220⟩,A5,H⟩:=zb H;(try dsimp only at H)
 obtain ⟨⟨t221,t222,t223,t224,t225,t226⟩,A6,H⟩:=zb H;(try dsimp only at H)
 obtain ⟨⟨t228,t229,t230⟩,A7,H⟩:=zb H;(try dsimp only at H)
 have HC8:=Aside0.mk H
 clear H
 go_enter Tryz.func63,Tryz.ntmps63
 go_upto_if 23 with (first|((with_reducible refine gate_dst (N:=2) rfl ?_);refine zX 2 #[.int .i64 0,.int .i64 0,.int .i64 0,.int .i64 0] 25 ?_;intro gb205 hg w9 hbox hb;refine zA8 (IsS115.below (zI HI0.1) hb) (KeepBut.trans (zJ HK.1) (KeepBut.of_below hb g none) (.inl rfl)) (below_step (zH1 HB.1 (IsS115.ge HI0.1)) hb) (hbox) ((by rw [hg];exact (keep_size (w:=w) (g:=g) (row:=none) (zJ HK.1)):w.heap.size≤gb205)) ((Nat.le_trans HW0.1 (by rw [hg];exact (keep_size (w:=w) (g:=g) (row:=none) (zJ HK.1)):w.heap.size≤gb205):w0.heap.size≤gb205)) ((zl hg (IsS115.lt (show IsS115 w0 _ g s0_0 s0_1 s0_2 from zI HI0.1)):g≠gb205)) ((zg hg (IsS115.lt (show IsS115 w0 _ g s0_0 s0_1 s0_2 from zI HI0.1)):gb205≠g)) ?_;clear HI0 HK HB;intro HI0 HK HB BK205 GW205 GE205 NB0_205 NB205_0;clear hb hbox hg)|((with_reducible refine gate_callee (f:=42) rfl ?_);refine zL (some 9) Tryz.func42 #[.pointer (some ⟨g,0,none⟩),.int .i64 2] ?_;(with_reducible refine (spec_l01Next.calls g s0_0 s0_1 s0_2 2 t206 t207 t208 w0 _ ?side1 ?side2 A2.1).mono ?_);(case side1=>exact zI1 HI0.1 NB0_205.1);(case side2=>exact zH2 HB.1 (IsS115.ge HI0.1) GE205.1);rintro e w10 ⟨rfl,hi,hb,hk⟩;refine ⟨_,rfl,?_⟩;refine zA4 (zYk hk BK205.1 NB205_0.1) (KeepBut.trans (zJ1 HK.1 GW205.1) hk (.inl rfl)) (hb) (hi) ?_;clear BK205 HK HB HI0;intro BK205 HK HB HI0;(try clear hb);(try clear hk);(try clear hi))|((with_reducible refine gate_callee (f:=42) rfl ?_);refine zL (some 11) Tryz.func42 #[.pointer (some ⟨g,0,none⟩),.int .i64 2] ?_;(with_reducible refine (spec_l01Next.calls g s0_0 t207 t208 2 t209 t210 t211 w0 _ ?side1 ?side2 A3.1).mono ?_);(case side1=>exact zI1 HI0.1 NB0_205.1);(case side2=>exact zH2 HB.1 (IsS115.ge HI0.1) GE205.1);rintro e w11 ⟨rfl,hi,hb,hk⟩;refine ⟨_,rfl,?_⟩;refine zA4 (zYk hk BK205.1 NB205_0.1) (KeepBut.trans (zJ1 HK.1 GW205.1) hk (.inl rfl)) (hb) (hi) ?_;clear BK205 HK HB HI0;intro BK205 HK HB HI0;(try clear hb);(try clear hk);(try clear hi))|((with_reducible refine gate_dst (N:=15) rfl ?_);refine Kd.R_lit (Kd.int .i64) _ 2 ?hg (N:=15) ?hd (xs:=([4,6,7]:List Int)) (inner:=[.int .i64 4,.int .i64 6,.int .i64 7]) (ok:=fun _=>True) (okp:=fun _=>True) ?hr ?hp (fun _ hk=>hk) trivial (Below.refl _ _) (Nat.le_refl _) (by simp) ?_;(case hd=>rfl);(case hg=>rfl);(case hr=>first|(go_simp;done)|(go_simp;rfl));(case hp=>exact (Reps.one (show Kd.M (Kd.int .i64) _ _ _ 4 [.int .i64 4] from rfl) (Reps.one (show Kd.M (Kd.int .i64) _ _ _ 6 [.int .i64 6] from rfl) (Reps.one (show Kd.M (Kd.int .i64) _ _ _ 7 [.int .i64 7] from rfl) (Reps.none _ _)))));intro v213 w12 ho13 hb hg_ hnew_;clear hg_ hnew_;(first|rw [← Ny212.1] at ho13|(simp only [Int.reduceToNat] at ho13;rw [← Ny212.1] at ho13));refine zA5 (Kd.R_lower ho13 (keep_size (w:=w) (g:=g) (row:=none) (zJ1 HK.1 GW205.1))) (IsS115.below (zI1 HI0.1 NB0_205.1) hb) (zY BK205.1 hb) (KeepBut.trans (zJ1 HK.1 GW205.1) (KeepBut.of_below hb g none) (.inl rfl)) (below_step (zH2 HB.1 (IsS115.ge HI0.1) GE205.1) hb) ?_;clear HI0 BK205 HK HB;intro HO214 HI0 BK205 HK HB;clear hb ho13;obtain ⟨Ao14,co14,eo14⟩:=Kd.R_slice HO214.1;subst eo14)|((with_reducible refine gate_callee (f:=60) rfl ?_);refine zL (some 16) Tryz.func60 #[.pointer (some ⟨g,0,none⟩),.slice Ao14 y212.length co14] ?_;(with_reducible refine (spec_l01Pick.calls g s0_0 t210 t211 _ _ y212 t215 t216 t217 w0 _ ?side1 ?side2 ?side3 ?side4 ?side5 A4.1).mono ?_);(case side1=>exact zI1 HI0.1 NB0_205.1);(case side2=>exact zH2 HB.1 (IsS115.ge HI0.1) GE205.1);(case side3=>repeat (first|exact (Kd.R_reads' HO214.1).2.2|(with_reducible refine Kd.C_alloc ?_ _)|(with_reducible refine Kd.C_drewN ?_ _)|(with_reducible refine Kd.C_drew ?_)));(case side4=>exact (Kd.R_reads' HO214.1).2.1);(case side5=>exact far_slice (IsS115.own_ne HI0.1 HO214.1 (by decide)));rintro e w15 ⟨rfl,hi,hb,hk⟩;refine ⟨_,rfl,?_⟩;refine zA5 (zYk hk BK205.1 NB205_0.1) (Kd.R_mono (Kd.R_keep (IsS115.apart (show IsS115 w0 _ g s0_0 t210 t211 from zI1 HI0.1 NB0_205.1) (zR HO214.1) (by decide)) hk (fun _ h=>h.2)) (fun _ h=>h.1)) (KeepBut.trans (zJ1 HK.1 GW205.1) hk (.inl rfl)) (hb) (hi) ?_;clear BK205 HO214 HK HB HI0;intro BK205 HO214 HK HB HI0;(try clear hb);(try clear hk);(try clear hi))|((with_reducible refine gate_callee (f:=42) rfl ?_);refine zL (some 17) Tryz.func42 #[.pointer (some ⟨g,0,none⟩),.int .i64 t215] ?_;(with_reducible refine (spec_l01Next.calls g s0_0 t216 t217 t215 t218 t219 t220 w0 _ ?side1 ?side2 A5.1).mono ?_);(case side1=>exact zI1 HI0.1 NB0_205.1);(case side2=>exact zH2 HB.1 (IsS115.ge HI0.1) GE205.1);rintro e w16 ⟨rfl,hi,hb,hk⟩;refine ⟨_,rfl,?_⟩;refine zA5 (zYk hk BK205.1 NB205_0.1) (Kd.R_mono (Kd.R_keep (IsS115.apart (show IsS115 w0 _ g s0_0 t216 t217 from zI1 HI0.1 NB0_205.1) (zR HO214.1) (by decide)) hk (fun _ h=>h.2)) (fun _ h=>h.1)) (KeepBut.trans (zJ1 HK.1 GW205.1) hk (.inl rfl)) (hb) (hi) ?_;clear BK205 HO214 HK HB HI0;intro BK205 HO214 HK HB HI0;(try clear hb);(try clear hk);(try clear hi))|((with_reducible refine gate_callee (f:=79) rfl ?_);refine zL (some 20) Tryz.func79 #[.pointer (some ⟨g,0,none⟩),.int .i64 (wrap64 (1+t218)),.int .i64 t206] ?_;(with_reducible refine (spec_l05Draw.calls k g s0_0 t219 t220 (wrap64 (1+t218)) t206 t221 t222 t223 t224 t225 t226 w0 _ ?side1 ?side2 A6.1).mono ?_);(case side1=>exact zI1 HI0.1 NB0_205.1);(case side2=>exact zH2 HB.1 (IsS115.ge HI0.1) GE205.1);rintro e w17 ⟨rfl,hi,hb,hk⟩;refine ⟨_,rfl,?_⟩;refine zA5 (zYk hk BK205.1 NB205_0.1) (Kd.R_mono (Kd.R_keep (IsS115.apart (show IsS115 w0 _ g s0_0 t219 t220 from zI1 HI0.1 NB0_205.1) (zR HO214.1) (by decide)) hk (fun _ h=>h.2)) (fun _ h=>h.1)) (KeepBut.trans (zJ1 HK.1 GW205.1) hk (.inl rfl)) (hb) (hi) ?_;clear BK205 HO214 HK HB HI0;intro BK205 HO214 HK HB HI0;(try clear hb);(try clear hk);(try clear hi))|((with_reducible refine gate_dst (N:=7) rfl ?_);refine zX 7 #[.int .i64 0,.int .i64 0,.int .i64 0,.int .i64 0] 25 ?_;intro gb227 hg w18 hbox hb;refine zA12 (Kd.R_below (zR HO214.1) hb) (IsS115.below (zI1 HI0.1 NB0_205.1) hb) (zY BK205.1 hb) (KeepBut.trans (zJ1 HK.1 GW205.1) (KeepBut.of_below hb g none) (.inl rfl)) (below_step (zH2 HB.1 (IsS115.ge HI0.1) GE205.1) hb) (hbox) ((by rw [hg];exact (keep_size (w:=w) (g:=g) (row:=none) (zJ1 HK.1 GW205.1)):w.heap.size≤gb227)) ((Nat.le_trans HW0.1 (by rw [hg];exact (keep_size (w:=w) (g:=g) (row:=none) (zJ1 HK.1 GW205.1)):w.heap.size≤gb227):w0.heap.size≤gb227)) ((zl hg (blk_lt (g:=gb205) (o:=.cells #[.int .i64 0,.int .i64 0,.int .i64 0,.int .i64 0] 25 (0,0)) (zB BK205.1)):gb205≠gb227)) ((zg hg (blk_lt (g:=gb205) (o:=.cells #[.int .i64 0,.int .i64 0,.int .i64 0,.int .i64 0] 25 (0,0)) (zB BK205.1)):gb227≠gb205)) ((zl hg (IsS115.lt (show IsS115 w0 _ g s0_0 t225 t226 from zI1 HI0.1 NB0_205.1)):g≠gb227)) ((zg hg (IsS115.lt (show IsS115 w0 _ g s0_0 t225 t226 from zI1 HI0.1 NB0_205.1)):gb227≠g)) ?_;clear HO214 HI0 BK205 HK HB;intro HO214 HI0 BK205 HK HB BK227 GW227 GE227 NB205_227 NB227_205 NB0_227 NB227_0;clear hb hbox hg;have hnb19:=NB227_205.1;have hnc19:=NB205_227.1;have hnb20:=NB227_0.1;have hnc20:=NB0_227.1;obtain ⟨Z21_0,Z21_1,Z21_2,Z21_3⟩:=zc4 BK227;obtain ⟨V21_0,V21_1,V21_2,V21_3⟩:=zf4 BK227)|((with_reducible refine gate_callee (f:=42) rfl ?_);refine zL (some 22) Tryz.func42 #[.pointer (some ⟨g,0,none⟩),.int .i64 5] ?_;(with_reducible refine (spec_l01Next.calls g s0_0 t225 t226 5 t228 t229 t230 w0 _ ?side1 ?side2 A7.1).mono ?_);(case side1=>exact zI2 HI0.1 NB0_205.1 NB0_227.1);(case side2=>exact zH3 HB.1 (IsS115.ge HI0.1) GE205.1 GE227.1);rintro e w22 ⟨rfl,hi,hb,hk⟩;refine ⟨_,rfl,?_⟩;refine zA6 (KeepBut.blk hk (g':=gb205) (o:=.cells #[.int .i64 0,.int .i64 0,.int .i64 0,.int .i64 0] 25 (0,0)) (zQ1 BK205.1 NB205_227.1) NB205_0.1 (by simp)) (Kd.R_mono (Kd.R_keep (IsS115.apart (show IsS115 w0 _ g s0_0 t225 t226 from zI2 HI0.1 NB0_205.1 NB0_227.1) (by (with_reducible repeat (first|apply Kd.R_alloc|apply Kd.R_drewN|apply Kd.R_drew));exact (Kd.R_mono (Kd.R_far (p:=⟨gb227,3,none⟩) (Kd.R_far (p:=⟨gb227,2,none⟩) (Kd.R_far (p:=⟨gb227,1,none⟩) (Kd.R_far (p:=⟨gb227,0,none⟩) (Kd.R_types HO214.1 BK227.1 (by decide)) (fun _ hk=>hk.2) (.int .i64 t221)) (fun _ hk=>hk.2) (.int .i64 t222)) (fun _ hk=>hk.2) (.int .i64 t223)) (fun _ hk=>hk.2) (.int .i64 t224)) (fun _ h_=>h_.1))) (by decide)) hk (fun _ h=>h.2)) (fun _ h=>h.1)) (KeepBut.blk hk (g':=gb227) (o:=.cells #[.int .i64 t221,.int .i64 t222,.int .i64 t223,.int .i64 t224] 25 (0,0)) (zQ BK227.1) NB227_0.1 (by simp)) (KeepBut.trans (zJ2 HK.1 GW205.1 GW227.1) hk (.inl rfl)) (hb) (hi) ?_;clear BK205 HO214 BK227 HK HB HI0;intro BK205 HO214 BK227 HK HB HI0;(try clear hb);(try clear hk);(try clear hi)))
 (try simp only [Act.put,List.setIfInBounds_toArray,List.set_cons_zero,List.set_cons_succ])
 go_cut [] (fun wc=>∃ (kq:Nat) (x1001_7:Int) (x1002_7:Int) (x228000_7:Int) (x228001_7:Int) (x228002_7:Int) (x228003_7:Int),Aside0 (spec_l05With.j0 kq t206 t209 s0_0 x1001_7 x1002_7 x228000_7 x228001_7 x228002_7 x228003_7=some (r1,r2,r3,r4,r5,r6,r7,r8))∧Aside0 (kq≤k)∧Aside0 (wc.heap[gb205]?=some (.cells #[.int .i64 0,.int .i64 0,.int .i64 0,.int .i64 0] 25 (0,0)))∧Aside0 (wc.heap[gb227]?=some (.cells #[.int .i64 x228000_7,.int .i64 x228001_7,.int .i64 x228002_7,.int .i64 x228003_7] 25 (0,0)))∧Aside0 (IsS115 w0 wc g s0_0 x1001_7 x1002_7)∧Aside0 (KeepBut w wc g none)∧Aside0 (Below w0.heap.size w0 wc))
 case first=>
  have H:=HC8.1
  clear HC8
  by_cases c23:t228=0
  ·rw [if_pos c23] at H
   have c23b0:=zq1 c23
   have c23b1:=zq2 c23
   clear c23
   (first|rw [c23b0]|(simp only [i64_w,i32_w];rw [c23b0])|skip)
   obtain ⟨⟨t231,t232,t233,t234,t235,t236⟩,A24,H⟩:=zb H;(try dsimp only at H)
   have H':=Aside0.mk H
   clear H
   go_wp2_with (first|((with_reducible refine gate_callee (f:=44) rfl ?_);refine zL (some 26) Tryz.func44 #[.pointer (some ⟨g,0,none⟩),.int .i64 t206] ?_;(with_reducible refine (spec_l05Twice.calls k g s0_0 t229 t230 t206 t231 t232 t233 t234 t235 t236 w0 _ ?side1 ?side2 A24.1).mono ?_);(case side1=>exact zI2 HI0.1 NB0_205.1 NB0_227.1);(case side2=>exact zH3 HB.1 (IsS115.ge HI0.1) GE205.1 GE227.1);rintro e w25 ⟨rfl,hi,hb,hk⟩;refine ⟨_,rfl,?_⟩;refine zA6 (zYk hk BK205.1 NB205_0.1) (Kd.R_mono (Kd.R_keep (IsS115.apart (show IsS115 w0 _ g s0_0 t229 t230 from zI2 HI0.1 NB0_205.1 NB0_227.1) (zR HO214.1) (by decide)) hk (fun _ h=>h.2)) (fun _ h=>h.1)) (zYk hk BK227.1 NB227_0.1) (KeepBut.trans (zJ2 HK.1 GW205.1 GW227.1) hk (.inl rfl)) (hb) (hi) ?_;clear BK205 HO214 BK227 HK HB HI0;intro BK205 HO214 BK227 HK HB HI0;(try clear hb);(try clear hk);(try clear hi);have hnb26:=NB227_205.1;have hnc26:=NB205_227.1;have hnb27:=NB227_0.1;have hnc27:=NB0_227.1;obtain ⟨Z28_0,Z28_1,Z28_2,Z28_3⟩:=zc4 BK227;obtain ⟨V28_0,V28_1,V28_2,V28_3⟩:=zf4 BK227))
   go_meet
   case rel=>exact ⟨_,(t235),(t236),(t231),(t232),(t233),(t234),H',⟨by first|omega|exact Nat.le_refl _⟩,⟨zQ1 BK205.1 NB205_227.1⟩,⟨zQ BK227.1⟩,⟨zI2 HI0.1 NB0_205.1 NB0_227.1⟩,⟨zJ2 HK.1 GW205.1 GW227.1⟩,⟨zH3 HB.1 (IsS115.ge HI0.1) GE205.1 GE227.1⟩⟩
  ·rw [if_neg c23] at H
   have c23b0:=zq3 c23
   have c23b1:=zq4 c23
   (first|rw [c23b0]|(simp only [i64_w,i32_w];rw [c23b0])|skip)
   have H':=Aside0.mk H
   clear H
   go_wp2
   go_meet
   case rel=>exact ⟨_,(t229),(t230),(t221),(t222),(t223),(t224),H',⟨by first|omega|exact Nat.le_refl _⟩,⟨zB BK205.1⟩,⟨zB BK227.1⟩,⟨zI2 HI0.1 NB0_205.1 NB0_227.1⟩,⟨zJ2 HK.1 GW205.1 GW227.1⟩,⟨zH3 HB.1 (IsS115.ge HI0.1) GE205.1 GE227.1⟩⟩
 case rest=>
  clear HC8
  try clear c1
  try clear c2
  try clear p2
  try clear c4
  try clear c6
  try clear p6
  try clear c7
  try clear c19
  try clear c20
  try clear c23
  try clear c23b0
  try clear c23b1
  try clear c26
  try clear c27
  try clear Z21_0 Z21_1 Z21_2 Z21_3
  try clear Z28_0 Z28_1 Z28_2 Z28_3
  try clear V21_0 V21_1 V21_2 V21_3
  try clear V28_0 V28_1 V28_2 V28_3
  obtain ⟨kq,x1001_7,x1002_7,x228000_7,x228001_7,x228002_7,x228003_7,HA,HJ7,BK205,BK227,HI0,HK,HB⟩:=hcut
  cases kq with
  |zero=>exact absurd HA.1 (by simp [spec_l05With.j0])
  |succ kj7=>
   have H:=HA.1
   clear HA
   simp only [spec_l05With.j0] at H
   obtain ⟨⟨t237,t238,t239⟩,A29,H⟩:=zb H;(try dsimp only at H)
   by_cases c30:t237=0
   ·rw [if_pos c30] at H
    have c30b0:=zq1 c30
    have c30b1:=zq2 c30
    clear c30
    obtain ⟨y240,hy240⟩:∃ y_:List Int,y_=(([(-1),2]:List Int)):=⟨_,rfl⟩
    replace H:((spec_l01Pick.f s0_0 t238 t239 y240).bind fun bt243=>(some (x228000_7,x228001_7,x228002_7,x228003_7,bt243.1,t209,bt243.2.1,bt243.2.2)))=some (r1,r2,r3,r4,r5,r6,r7,r8):=by first|(rw [hy240];with_reducible exact H)|(have H2_:=(Option.bind_some _ _).symm.trans H;rw [hy240];with_reducible exact H2_)|(have H2_:=(Option.bind_some _ _).symm.trans H;with_reducible exact H2_)|with_reducible exact H|(rw [hy240];exact H)|exact H
    have Ny240:=Aside0.mk hy240
    clear hy240
    obtain ⟨⟨t243,t244,t245⟩,A31,H⟩:=zb H;(try dsimp only at H)
    simp only [Option.some.injEq,Prod.mk.injEq] at H
    obtain ⟨rfl,rfl,rfl,rfl,rfl,rfl,rfl,rfl⟩:=H
    go_wp2_with (first|((with_reducible refine gate_callee (f:=42) rfl ?_);refine zL (some 28) Tryz.func42 #[.pointer (some ⟨g,0,none⟩),.int .i64 30] ?_;(with_reducible refine (spec_l01Next.calls g s0_0 x1001_7 x1002_7 30 t237 t238 t239 w0 _ ?side1 ?side2 A29.1).mono ?_);(case side1=>exact zI2 HI0.1 NB0_205.1 NB0_227.1);(case side2=>exact zH3 HB.1 (IsS115.ge HI0.1) GE205.1 GE227.1);rintro e w32 ⟨rfl,hi,hb,hk⟩;refine ⟨_,rfl,?_⟩;refine zA5 (zYk hk BK205.1 NB205_0.1) (zYk hk BK227.1 NB227_0.1) (KeepBut.trans (zJ2 HK.1 GW205.1 GW227.1) hk (.inl rfl)) (hb) (hi) ?_;clear BK205 BK227 HK HB HI0;intro BK205 BK227 HK HB HI0;(try clear hb);(try clear hk);(try clear hi))|((with_reducible refine gate_dst (N:=32) rfl ?_);refine Kd.R_lit (Kd.int .i64) _ 2 ?hg (N:=32) ?hd (xs:=([(-1),2]:List Int)) (inner:=[.int .i64 (-1),.int .i64 2]) (ok:=fun _=>True) (okp:=fun _=>True) ?hr ?hp (fun _ hk=>hk) trivial (Below.refl _ _) (Nat.le_refl _) (by simp) ?_;(case hd=>rfl);(case hg=>rfl);(case hr=>first|(go_simp;done)|(go_simp;rfl));(case hp=>exact (Reps.one (show Kd.M (Kd.int .i64) _ _ _ (-1) [.int .i64 (-1)] from rfl) (Reps.one (show Kd.M (Kd.int .i64) _ _ _ 2 [.int .i64 2] from rfl) (Reps.none _ _))));intro v241 w33 ho34 hb hg_ hnew_;clear hg_ hnew_;(first|rw [← Ny240.1] at ho34|(simp only [Int.reduceToNat] at ho34;rw [← Ny240.1] at ho34));refine zA6 (Kd.R_lower ho34 (keep_size (w:=w) (g:=g) (row:=none) (zJ2 HK.1 GW205.1 GW227.1))) (zY BK205.1 hb) (zY BK227.1 hb) (IsS115.below (zI2 HI0.1 NB0_205.1 NB0_227.1) hb) (KeepBut.trans (zJ2 HK.1 GW205.1 GW227.1) (KeepBut.of_below hb g none) (.inl rfl)) (below_step (zH3 HB.1 (IsS115.ge HI0.1) GE205.1 GE227.1) hb) ?_;clear BK205 BK227 HI0 HK HB;intro HO242 BK205 BK227 HI0 HK HB;clear hb ho34;obtain ⟨Ao35,co35,eo35⟩:=Kd.R_slice HO242.1;subst eo35)|((with_reducible refine gate_callee (f:=60) rfl ?_);refine zL (some 33) Tryz.func60 #[.pointer (some ⟨g,0,none⟩),.slice Ao35 y240.length co35] ?_;(with_reducible refine (spec_l01Pick.calls g s0_0 t238 t239 _ _ y240 t243 t244 t245 w0 _ ?side1 ?side2 ?side3 ?side4 ?side5 A31.1).mono ?_);(case side1=>exact zI2 HI0.1 NB0_205.1 NB0_227.1);(case side2=>exact zH3 HB.1 (IsS115.ge HI0.1) GE205.1 GE227.1);(case side3=>repeat (first|exact (Kd.R_reads' HO242.1).2.2|(with_reducible refine Kd.C_alloc ?_ _)|(with_reducible refine Kd.C_drewN ?_ _)|(with_reducible refine Kd.C_drew ?_)));(case side4=>exact (Kd.R_reads' HO242.1).2.1);(case side5=>exact far_slice (IsS115.own_ne HI0.1 HO242.1 (by decide)));rintro e w36 ⟨rfl,hi,hb,hk⟩;refine ⟨_,rfl,?_⟩;refine zA6 (zYk hk BK205.1 NB205_0.1) (zYk hk BK227.1 NB227_0.1) (Kd.R_mono (Kd.R_keep (IsS115.apart (show IsS115 w0 _ g s0_0 t238 t239 from zI2 HI0.1 NB0_205.1 NB0_227.1) (zR HO242.1) (by decide)) hk (fun _ h=>h.2)) (fun _ h=>h.1)) (KeepBut.trans (zJ2 HK.1 GW205.1 GW227.1) hk (.inl rfl)) (hb) (hi) ?_;clear BK205 BK227 HO242 HK HB HI0;intro BK205 BK227 HO242 HK HB HI0;(try clear hb);(try clear hk);(try clear hi);have hnb37:=NB227_205.1;have hnc37:=NB205_227.1;have hnb38:=NB227_0.1;have hnc38:=NB0_227.1;obtain ⟨Z39_0,Z39_1,Z39_2,Z39_3⟩:=zc4 BK227;obtain ⟨V39_0,V39_1,V39_2,V39_3⟩:=zf4 BK227;have hnb40:=NB205_0.1;have hnc40:=NB0_205.1;obtain ⟨Z41_0,Z41_1,Z41_2,Z41_3⟩:=zc4 BK205;obtain ⟨V41_0,V41_1,V41_2,V41_3⟩:=zf4 BK205))
    refine bodyPost_ret (results_ctt rfl _ _ gb205 25 #[.int .i64 x228000_7,.int .i64 x228001_7,.int .i64 x228002_7,.int .i64 x228003_7] (0,0) _ rfl (zQ BK205.1) Tryz.underlying25 rfl (by kernel_rfl)) rfl ?_
    exact ⟨zE,zI2 HI0.1 NB0_205.1 NB0_227.1,zH3 HB.1 (IsS115.ge HI0.1) GE205.1 GE227.1,zJ2 HK.1 GW205.1 GW227.1⟩
   ·rw [if_neg c30] at H
    have c30b0:=zq3 c30
    have c30b1:=zq4 c30
    by_cases c42:t237=1
    ·rw [if_pos c42] at H
     have c42b0:=zq1 c42
     have c42b1:=zq2 c42
     clear c42
     obtain ⟨y246,hy246⟩:∃ y_:List Int,y_=(([(-1),2]:List Int)):=⟨_,rfl⟩
     replace H:((spec_l01Pick.f s0_0 t238 t239 y246).bind fun bt249=>(some (x228000_7,x228001_7,x228002_7,x228003_7,t206,bt249.1,bt249.2.1,bt249.2.2)))=some (r1,r2,r3,r4,r5,r6,r7,r8):=by first|(rw [hy246];with_reducible exact H)|(have H2_:=(Option.bind_some _ _).symm.trans H;rw [hy246];with_reducible exact H2_)|(have H2_:=(Option.bind_some _ _).symm.trans H;with_reducible exact H2_)|with_reducible exact H|(rw [hy246];exact H)|exact H
     have Ny246:=Aside0.mk hy246
     clear hy246
     obtain ⟨⟨t249,t250,t251⟩,A43,H⟩:=zb H;(try dsimp only at H)
     simp only [Option.some.injEq,Prod.mk.injEq] at H
     obtain ⟨rfl,rfl,rfl,rfl,rfl,rfl,rfl,rfl⟩:=H
     go_wp2_with (first|((with_reducible refine gate_callee (f:=42) rfl ?_);refine zL (some 28) Tryz.func42 #[.pointer (some ⟨g,0,none⟩),.int .i64 30] ?_;(with_reducible refine (spec_l01Next.calls g s0_0 x1001_7 x1002_7 30 t237 t238 t239 w0 _ ?side1 ?side2 A29.1).mono ?_);(case side1=>exact zI2 HI0.1 NB0_205.1 NB0_227.1);(case side2=>exact zH3 HB.1 (IsS115.ge HI0.1) GE205.1 GE227.1);rintro e w44 ⟨rfl,hi,hb,hk⟩;refine ⟨_,rfl,?_⟩;refine zA5 (zYk hk BK205.1 NB205_0.1) (zYk hk BK227.1 NB227_0.1) (KeepBut.trans (zJ2 HK.1 GW205.1 GW227.1) hk (.inl rfl)) (hb) (hi) ?_;clear BK205 BK227 HK HB HI0;intro BK205 BK227 HK HB HI0;(try clear hb);(try clear hk);(try clear hi))|((with_reducible refine gate_dst (N:=37) rfl ?_);refine Kd.R_lit (Kd.int .i64) _ 2 ?hg (N:=37) ?hd (xs:=([(-1),2]:List Int)) (inner:=[.int .i64 (-1),.int .i64 2]) (ok:=fun _=>True) (okp:=fun _=>True) ?hr ?hp (fun _ hk=>hk) trivial (Below.refl _ _) (Nat.le_refl _) (by simp) ?_;(case hd=>rfl);(case hg=>rfl);(case hr=>first|(go_simp;done)|(go_simp;rfl));(case hp=>exact (Reps.one (show Kd.M (Kd.int .i64) _ _ _ (-1) [.int .i64 (-1)] from rfl) (Reps.one (show Kd.M (Kd.int .i64) _ _ _ 2 [.int .i64 2] from rfl) (Reps.none _ _))));intro v247 w45 ho46 hb hg_ hnew_;clear hg_ hnew_;(first|rw [← Ny246.1] at ho46|(simp only [Int.reduceToNat] at ho46;rw [← Ny246.1] at ho46));refine zA6 (Kd.R_lower ho46 (keep_size (w:=w) (g:=g) (row:=none) (zJ2 HK.1 GW205.1 GW227.1))) (zY BK205.1 hb) (zY BK227.1 hb) (IsS115.below (zI2 HI0.1 NB0_205.1 NB0_227.1) hb) (KeepBut.trans (zJ2 HK.1 GW205.1 GW227.1) (KeepBut.of_below hb g none) (.inl rfl)) (below_step (zH3 HB.1 (IsS115.ge HI0.1) GE205.1 GE227.1) hb) ?_;clear BK205 BK227 HI0 HK HB;intro HO248 BK205 BK227 HI0 HK HB;clear hb ho46;obtain ⟨Ao47,co47,eo47⟩:=Kd.R_slice HO248.1;subst eo47)|((with_reducible refine gate_callee (f:=60) rfl ?_);refine zL (some 38) Tryz.func60 #[.pointer (some ⟨g,0,none⟩),.slice Ao47 y246.length co47] ?_;(with_reducible refine (spec_l01Pick.calls g s0_0 t238 t239 _ _ y246 t249 t250 t251 w0 _ ?side1 ?side2 ?side3 ?side4 ?side5 A43.1).mono ?_);(case side1=>exact zI2 HI0.1 NB0_205.1 NB0_227.1);(case side2=>exact zH3 HB.1 (IsS115.ge HI0.1) GE205.1 GE227.1);(case side3=>repeat (first|exact (Kd.R_reads' HO248.1).2.2|(with_reducible refine Kd.C_alloc ?_ _)|(with_reducible refine Kd.C_drewN ?_ _)|(with_reducible refine Kd.C_drew ?_)));(case side4=>exact (Kd.R_reads' HO248.1).2.1);(case side5=>exact far_slice (IsS115.own_ne HI0.1 HO248.1 (by decide)));rintro e w48 ⟨rfl,hi,hb,hk⟩;refine ⟨_,rfl,?_⟩;refine zA6 (zYk hk BK205.1 NB205_0.1) (zYk hk BK227.1 NB227_0.1) (Kd.R_mono (Kd.R_keep (IsS115.apart (show IsS115 w0 _ g s0_0 t238 t239 from zI2 HI0.1 NB0_205.1 NB0_227.1) (zR HO248.1) (by decide)) hk (fun _ h=>h.2)) (fun _ h=>h.1)) (KeepBut.trans (zJ2 HK.1 GW205.1 GW227.1) hk (.inl rfl)) (hb) (hi) ?_;clear BK205 BK227 HO248 HK HB HI0;intro BK205 BK227 HO248 HK HB HI0;(try clear hb);(try clear hk);(try clear hi);have hnb49:=NB227_205.1;have hnc49:=NB205_227.1;have hnb50:=NB227_0.1;have hnc50:=NB0_227.1;obtain ⟨Z51_0,Z51_1,Z51_2,Z51_3⟩:=zc4 BK227;obtain ⟨V51_0,V51_1,V51_2,V51_3⟩:=zf4 BK227;have hnb52:=NB205_0.1;have hnc52:=NB0_205.1;obtain ⟨Z53_0,Z53_1,Z53_2,Z53_3⟩:=zc4 BK205;obtain ⟨V53_0,V53_1,V53_2,V53_3⟩:=zf4 BK205))
     refine bodyPost_ret (results_ctt rfl _ _ gb205 25 #[.int .i64 x228000_7,.int .i64 x228001_7,.int .i64 x228002_7,.int .i64 x228003_7] (0,0) _ rfl (zQ BK205.1) Tryz.underlying25 rfl (by kernel_rfl)) rfl ?_
     exact ⟨zE,zI2 HI0.1 NB0_205.1 NB0_227.1,zH3 HB.1 (IsS115.ge HI0.1) GE205.1 GE227.1,zJ2 HK.1 GW205.1 GW227.1⟩
    ·rw [if_neg c42] at H
     have c42b0:=zq3 c42
     have c42b1:=zq4 c42
     simp only [Option.some.injEq,Prod.mk.injEq] at H
     obtain ⟨rfl,rfl,rfl,rfl,rfl,rfl,rfl,rfl⟩:=H
     go_wp2_with (first|((with_reducible refine gate_callee (f:=42) rfl ?_);refine zL (some 28) Tryz.func42 #[.pointer (some ⟨g,0,none⟩),.int .i64 30] ?_;(with_reducible refine (spec_l01Next.calls g s0_0 x1001_7 x1002_7 30 t237 t238 t239 w0 _ ?side1 ?side2 A29.1).mono ?_);(case side1=>exact zI2 HI0.1 NB0_205.1 NB0_227.1);(case side2=>exact zH3 HB.1 (IsS115.ge HI0.1) GE205.1 GE227.1);rintro e w54 ⟨rfl,hi,hb,hk⟩;refine ⟨_,rfl,?_⟩;refine zA5 (zYk hk BK205.1 NB205_0.1) (zYk hk BK227.1 NB227_0.1) (KeepBut.trans (zJ2 HK.1 GW205.1 GW227.1) hk (.inl rfl)) (hb) (hi) ?_;clear BK205 BK227 HK HB HI0;intro BK205 BK227 HK HB HI0;(try clear hb);(try clear hk);(try clear hi);have hnb55:=NB227_205.1;have hnc55:=NB205_227.1;have hnb56:=NB227_0.1;have hnc56:=NB0_227.1;obtain ⟨Z57_0,Z57_1,Z57_2,Z57_3⟩:=zc4 BK227;obtain ⟨V57_0,V57_1,V57_2,V57_3⟩:=zf4 BK227;have hnb58:=NB205_0.1;have hnc58:=NB0_205.1;obtain ⟨Z59_0,Z59_1,Z59_2,Z59_3⟩:=zc4 BK205;obtain ⟨V59_0,V59_1,V59_2,V59_3⟩:=zf4 BK205))
     refine bodyPost_ret (results_ctt rfl _ _ gb205 25 #[.int .i64 x228000_7,.int .i64 x228001_7,.int .i64 x228002_7,.int .i64 x228003_7] (0,0) _ rfl (zQ BK205.1) Tryz.underlying25 rfl (by kernel_rfl)) rfl ?_
     exact ⟨zE,zI2 HI0.1 NB0_205.1 NB0_227.1,zH3 HB.1 (IsS115.ge HI0.1) GE205.1 GE227.1,zJ2 HK.1 GW205.1 GW227.1⟩
def spec_l05Given.f (k:Nat) (l0:List Int):Option (Int×Int×Int×Int×Int×Int):=(spec_l01From.f k l0).bind fun bt253=>((spec_l05With.f k bt253.1 bt253.2.1 bt253.2.2).bind fun bt257=>((spec_l05Bad.f bt253.1 bt257.2.2.2.2.2.2.1 bt257.2.2.2.2.2.2.2 bt257.1 bt257.2.1 bt257.2.2.1 bt257.2.2.2.1).bind fun bt266=>(some (bt266.1,bt266.2.1,bt266.2.2.1,bt266.2.2.2.1,bt257.2.2.2.2.1,bt257.2.2.2.2.2.1))))
theorem spec_l05Given.calls (k:Nat) (A0:Option Addr) (c0:Nat) (l0:List Int) (r1:Int) (r2:Int) (r3:Int) (r4:Int) (r5:Int) (r6:Int) (w:World) (hr0:Kd.C (Kd.int .u8) w A0 l0.length l0) (hc0:l0.length≤c0) (h:spec_l05Given.f k l0=some (r1,r2,r3,r4,r5,r6)):
 Calls Tryz.prog 26 #[.slice A0 l0.length c0] w fun e w'=>e=.returned (.tuple #[.agg #[.int .i64 r1,.int .i64 r2,.int .i64 r3,.int .i64 r4],.int .i64 r5,.int .i64 r6])∧Below w.heap.size w w':=by
 have hu25:=Tryz.underlying25
 have HR0:=Aside0.mk hr0
 have HC0:=Aside0.mk hc0
 clear hr0 hc0
 have HB:=Aside0.mk (Below.refl w.heap.size w)
 have H:((spec_l01From.f k l0).bind fun bt253=>((spec_l05With.f k bt253.1 bt253.2.1 bt253.2.2).bind fun bt257=>((spec_l05Bad.f bt253.1 bt257.2.2.2.2.2.2.1 bt257.2.2.2.2.2.2.2 bt257.1 bt257.2.1 bt257.2.2.1 bt257.2.2.2.1).bind fun bt266=>(some (bt266.1,bt266.2.1,bt266.2.2.1,bt266.2.2.2.1,bt257.2.2.2.2.1,bt257.2.2.2.2.2.1)))))=some (r1,r2,r3,r4,r5,r6):=h
 clear h
 obtain ⟨⟨t253,t254,t255⟩,A2,H⟩:=zb H;(try dsimp only at H)
 obtain ⟨⟨t257,t258,t259,t260,t261,t262,t263,t264⟩,A3,H⟩:=zb H;(try dsimp only at H)
 obtain ⟨⟨t266,t267,t268,t269,t270,t271⟩,A4,H⟩:=zb H;(try dsimp only at H)
 simp only [Option.some.injEq,Prod.mk.injEq] at H
 obtain ⟨rfl,rfl,rfl,rfl,rfl,rfl⟩:=H
 go_enter Tryz.func26,Tryz.ntmps26
 go_wp2_with (first|((with_reducible refine gate_dst (N:=2) rfl ?_);refine zX 2 #[.int .i64 0,.int .i64 0,.int .i64 0,.int .i64 0] 25 ?_;intro gb252 hg w5 hbox hb;refine zA4 (below_step (zH HB.1) hb) (hbox) (zs hg HB:w.heap.size≤gb252) (zs hg HB:w.heap.size≤gb252) ?_;clear HB;intro HB BK252 GW252 GE252;clear hb hbox hg)|((with_reducible refine gate_callee (f:=41) rfl ?_);refine zL (some 10) Tryz.func41 #[.slice A0 l0.length c0] ?_;(with_reducible refine (spec_l01From.calls k _ _ l0 t253 t254 t255 w _ ?side1 ?side2 ?side3 A2.1).mono ?_);(case side1=>exact zH1 HB.1 GE252.1);(case side2=>exact HR0.1);(case side3=>exact HC0.1);rintro e w6 ⟨g256,rfl,hi,hb,hb2⟩;refine ⟨_,rfl,?_⟩;refine zA5 (zY BK252.1 hb2) (hb) (hi) (IsS115.ne_blk hi (zY BK252.1 hb2) (by decide)) (Ne.symm (IsS115.ne_blk hi (zY BK252.1 hb2) (by decide))) ?_;clear BK252 HB;intro BK252 HB HI256 NB256_252 NB252_256;(try clear hb);(try clear hb2);(try clear hk);(try clear hi))|((with_reducible refine gate_callee (f:=63) rfl ?_);refine zL (some 13) Tryz.func63 #[.pointer (some ⟨g256,0,none⟩)] ?_;(with_reducible refine (spec_l05With.calls k g256 t253 t254 t255 t257 t258 t259 t260 t261 t262 t263 t264 w _ ?side1 ?side2 A3.1).mono ?_);(case side1=>exact zI1 HI256.1 NB256_252.1);(case side2=>exact zH2 HB.1 (IsS115.ge HI256.1) GE252.1);rintro e w7 ⟨rfl,hi,hb,hk⟩;refine ⟨_,rfl,?_⟩;refine zA3 (zYk hk BK252.1 NB252_256.1) (hb) (hi) ?_;clear BK252 HB HI256;intro BK252 HB HI256;(try clear hb);(try clear hb2);(try clear hk);(try clear hi))|((with_reducible refine gate_dst (N:=6) rfl ?_);refine zX 6 #[.int .i64 0,.int .i64 0,.int .i64 0,.int .i64 0] 25 ?_;intro gb265 hg w8 hbox hb;refine zA10 (zY BK252.1 hb) (IsS115.below (zI1 HI256.1 NB256_252.1) hb) (below_step (zH2 HB.1 (IsS115.ge HI256.1) GE252.1) hb) (hbox) ((by rw [hg];exact (below_size (zH2 HB.1 (IsS115.ge HI256.1) GE252.1)):w.heap.size≤gb265)) ((by rw [hg];exact (below_size (zH2 HB.1 (IsS115.ge HI256.1) GE252.1)):w.heap.size≤gb265)) ((zl hg (blk_lt (g:=gb252) (o:=.cells #[.int .i64 0,.int .i64 0,.int .i64 0,.int .i64 0] 25 (0,0)) (zB BK252.1)):gb252≠gb265)) ((zg hg (blk_lt (g:=gb252) (o:=.cells #[.int .i64 0,.int .i64 0,.int .i64 0,.int .i64 0] 25 (0,0)) (zB BK252.1)):gb265≠gb252)) ((zl hg (IsS115.lt (show IsS115 w _ g256 t253 t263 t264 from zI1 HI256.1 NB256_252.1)):g256≠gb265)) ((zg hg (IsS115.lt (show IsS115 w _ g256 t253 t263 t264 from zI1 HI256.1 NB256_252.1)):gb265≠g256)) ?_;clear BK252 HI256 HB;intro BK252 HI256 HB BK265 GW265 GE265 NB252_265 NB265_252 NB256_265 NB265_256;clear hb hbox hg;have hnb9:=NB265_252.1;have hnc9:=NB252_265.1;have hnb10:=NB265_256.1;have hnc10:=NB256_265.1;obtain ⟨Z11_0,Z11_1,Z11_2,Z11_3⟩:=zc4 BK265;obtain ⟨V11_0,V11_1,V11_2,V11_3⟩:=zf4 BK265)|((with_reducible refine gate_callee (f:=43) rfl ?_);refine zL (some 19) Tryz.func43 #[.pointer (some ⟨g256,0,none⟩),.agg #[.int .i64 t257,.int .i64 t258,.int .i64 t259,.int .i64 t260]] ?_;(with_reducible refine (spec_l05Bad.calls g256 t253 t263 t264 t257 t258 t259 t260 t266 t267 t268 t269 t270 t271 w _ ?side1 ?side2 A4.1).mono ?_);(case side1=>exact zI2 HI256.1 NB256_252.1 NB256_265.1);(case side2=>exact zH3 HB.1 (IsS115.ge HI256.1) GE252.1 GE265.1);rintro e w12 ⟨rfl,hi,hb,hk⟩;refine ⟨_,rfl,?_⟩;refine zA4 (KeepBut.blk hk (g':=gb252) (o:=.cells #[.int .i64 0,.int .i64 0,.int .i64 0,.int .i64 0] 25 (0,0)) (zQ1 BK252.1 NB252_265.1) NB252_256.1 (by simp)) (KeepBut.blk hk (g':=gb265) (o:=.cells #[.int .i64 t257,.int .i64 t258,.int .i64 t259,.int .i64 t260] 25 (0,0)) (zQ BK265.1) NB265_256.1 (by simp)) (hb) (hi) ?_;clear BK252 BK265 HB HI256;intro BK252 BK265 HB HI256;(try clear hb);(try clear hb2);(try clear hk);(try clear hi);have hnb13:=NB252_256.1;have hnc13:=NB256_252.1;obtain ⟨Z14_0,Z14_1,Z14_2,Z14_3⟩:=zc4 BK252;obtain ⟨V14_0,V14_1,V14_2,V14_3⟩:=zf4 BK252))
 refine bodyPost_ret (results_ctt rfl _ _ gb252 25 #[.int .i64 t266,.int .i64 t267,.int .i64 t268,.int .i64 t269] (0,0) _ rfl (zQ BK252.1) Tryz.underlying25 rfl (by kernel_rfl)) rfl ?_
 exact ⟨zE,zH3 HB.1 (IsS115.ge HI256.1) GE252.1 GE265.1⟩
def spec_DrawPlayField.f (k:Nat) (l0:List Int):Option (Int×Int×Int×Int×Int×Int):=(spec_l05Given.f k l0).bind fun bt273=>(some (bt273.1,bt273.2.1,bt273.2.2.1,bt273.2.2.2.1,bt273.2.2.2.2.1,bt273.2.2.2.2.2))
theorem spec_DrawPlayField.calls (k:Nat) (A0:Option Addr) (c0:Nat) (l0:List Int) (r1:Int) (r2:Int) (r3:Int) (r4:Int) (r5:Int) (r6:Int) (w:World) (hr0:Kd.C (Kd.int .u8) w A0 l0.length l0) (hc0:l0.length≤c0) (h:spec_DrawPlayField.f k l0=some (r1,r2,r3,r4,r5,r6)):
 Calls Tryz.prog 5 #[.slice A0 l0.length c0] w fun e w'=>e=.returned (.tuple #[.agg #[.int .i64 r1,.int .i64 r2,.int .i64 r3,.int .i64 r4],.int .i64 r5,.int .i64 r6])∧Below w.heap.size w w':=by
 have hu25:=Tryz.underlying25
 have HR0:=Aside0.mk hr0
 have HC0:=Aside0.mk hc0
 clear hr0 hc0
 have HB:=Aside0.mk (Below.refl w.heap.size w)
 have H:((spec_l05Given.f k l0).bind fun bt273=>(some (bt273.1,bt273.2.1,bt273.2.2.1,bt273.2.2.2.1,bt273.2.2.2.2.1,bt273.2.2.2.2.2)))=some (r1,r2,r3,r4,r5,r6):=h
 clear h
 obtain ⟨⟨t273,t274,t275,t276,t277,t278⟩,A2,H⟩:=zb H;(try dsimp only at H)
 simp only [Option.some.injEq,Prod.mk.injEq] at H
 obtain ⟨rfl,rfl,rfl,rfl,rfl,rfl⟩:=H
 go_enter Tryz.func5,Tryz.ntmps5
 go_wp2_with (first|((with_reducible refine gate_dst (N:=2) rfl ?_);refine zX 2 #[.int .i64 0,.int .i64 0,.int .i64 0,.int .i64 0] 25 ?_;intro gb272 hg w3 hbox hb;refine zA4 (below_step (zH HB.1) hb) (hbox) (zs hg HB:w.heap.size≤gb272) (zs hg HB:w.heap.size≤gb272) ?_;clear HB;intro HB BK272 GW272 GE272;clear hb hbox hg)|((with_reducible refine gate_callee (f:=26) rfl ?_);refine zL (some 10) Tryz.func26 #[.slice A0 l0.length c0] ?_;(with_reducible refine (spec_l05Given.calls k _ _ l0 t273 t274 t275 t276 t277 t278 _ ?side1 ?side2 A2.1).mono ?_);(case side1=>repeat (first|exact (Kd.C_below HR0.1 HB.1)|(with_reducible refine Kd.C_alloc ?_ _)|(with_reducible refine Kd.C_drewN ?_ _)|(with_reducible refine Kd.C_drew ?_)));(case side2=>exact HC0.1);rintro e w4 ⟨rfl,hb⟩;refine ⟨_,rfl,?_⟩;refine zA2 (zY BK272.1 hb) (below_step (zH1 HB.1 GE272.1) hb) ?_;clear BK272 HB;intro BK272 HB;(try clear hb))|((with_reducible refine gate_dst (N:=5) rfl ?_);refine zX 5 #[.int .i64 0,.int .i64 0,.int .i64 0,.int .i64 0] 25 ?_;intro gb279 hg w5 hbox hb;refine zA7 (zY BK272.1 hb) (below_step (zH1 HB.1 GE272.1) hb) (hbox) ((zS hg (below_size (zH1 HB.1 GE272.1)):w.heap.size≤gb279)) ((zS hg (below_size (zH1 HB.1 GE272.1)):w.heap.size≤gb279)) ((zl hg (blk_lt (g:=gb272) (o:=.cells #[.int .i64 0,.int .i64 0,.int .i64 0,.int .i64 0] 25 (0,0)) (zB BK272.1)):gb272≠gb279)) ((zg hg (blk_lt (g:=gb272) (o:=.cells #[.int .i64 0,.int .i64 0,.int .i64 0,.int .i64 0] 25 (0,0)) (zB BK272.1)):gb279≠gb272)) ?_;clear BK272 HB;intro BK272 HB BK279 GW279 GE279 NB272_279 NB279_272;clear hb hbox hg;have hnb6:=NB279_272.1;have hnc6:=NB272_279.1;obtain ⟨Z7_0,Z7_1,Z7_2,Z7_3⟩:=zc4 BK279;obtain ⟨V7_0,V7_1,V7_2,V7_3⟩:=zf4 BK279;obtain ⟨Z8_0,Z8_1,Z8_2,Z8_3⟩:=zc4 BK272;obtain ⟨V8_0,V8_1,V8_2,V8_3⟩:=zf4 BK272))
 refine bodyPost_ret (results_ctt rfl _ _ gb272 25 #[.int .i64 t273,.int .i64 t274,.int .i64 t275,.int .i64 t276] (0,0) _ rfl (zQ1 BK272.1 NB272_279.1) Tryz.underlying25 rfl (by kernel_rfl)) rfl ?_
 exact ⟨zE,zH2 HB.1 GE272.1 GE279.1⟩
def impl_within.f (a0:Int) (a1:Int) (a2:Int):Option (Bool):=if a1≤a0 then (some (decide (a0≤a2))) else (some false)
theorem impl_within.calls (a0:Int) (a1:Int) (a2:Int) (r:Bool) (w:World) (h:impl_within.f a0 a1 a2=some r):
 Calls Tryz.prog 39 #[.int .i64 a0,.int .i64 a1,.int .i64 a2] w fun e w'=>e=.returned (.bool r)∧Drawn0 w w':=by
 have H:(if a1≤a0 then (some (decide (a0≤a2))) else (some false))=some r:=h
 clear h
 by_cases c4:a1≤a0
 ·rw [if_pos c4] at H
  have c4b0:=decide_eq_true c4
  clear c4
  obtain rfl:=Option.some.inj H
  go_enter Tryz.func39,Tryz.ntmps39
  go_wp2
  go_ret
  exact ⟨zF,zD⟩
 ·rw [if_neg c4] at H
  have c4b0:=decide_eq_false c4
  clear c4
  obtain rfl:=Option.some.inj H
  go_enter Tryz.func39,Tryz.ntmps39
  go_wp2
  go_ret
  exact ⟨zF,zD⟩
def impl_pairs.f (a0:Int):Option (Int):=some (wrap64 (Int.tdiv (wrap64 (a0*(wrap64 (a0-1)))) 2))
theorem impl_pairs.calls (a0:Int) (r:Int) (w:World) (h:impl_pairs.f a0=some r):
 Calls Tryz.prog 77 #[.int .i64 a0] w fun e w'=>e=.returned (.int .i64 r)∧Drawn0 w w':=by
 have H:(some (wrap64 (Int.tdiv (wrap64 (a0*(wrap64 (a0-1)))) 2)))=some r:=h
 clear h
 obtain rfl:=Option.some.inj H
 go_enter Tryz.func77,Tryz.ntmps77
 go_wp2
 go_ret
 exact ⟨zF,zD⟩
end Go.Proofs.YtlmohkbimnhecaaGreat.Q
