import Derived.Test.YtlmohkbimnhecaaGreatQ0
import Derived.Test.YtlmohkbimnhecaaGreatSq
import Derived.Test.YtlmohkbimnhecaaGreatQ1
import Derived.Test.YtlmohkbimnhecaaGreatQ2
import Derived.Test.YtlmohkbimnhecaaGreatQ3
import Derived.Test.YtlmohkbimnhecaaGreatQ4
set_option maxHeartbeats 8000000
set_option maxRecDepth 100000
namespace Go.Proofs.YtlmohkbimnhecaaGreat.Q
open Go.RowKit Go.Proofs.YtlmohkbimnhecaaGreatW.PrintWords Go.Proofs.YtlmohkbimnhecaaGreatW.PrintLast Go.Proofs.YtlmohkbimnhecaaGreatW.PrintMore
attribute [local go_sem] max2_int min2_int max_two min_two max_three min_three max_four min_four
set_option linter.unusedVariables false
set_option linter.unusedSimpArgs false
def spec_PlayField.l0:Nat→Int→Int→List Int→List Int→Int→Int→Int→Int→Option (List Int×Int)
 |0,_,_,_,_,_,_,_,_=>none
 |k+1,x1,x2,x9,x10,x368000,x368001,x368002,x368003=>(spec_l05Best.f k x368000 x368001 x368002 x368003 x1 x2 x9).bind fun bt375=>(if (bt375.1.length:Int)=0 then ((spec_l05Points.f k x368000 x368001 x368002 x368003 x1 x2).bind fun t379=>(if (t379.length:Int)=0 then (some (x10,0)) else (if 0<(t379.length:Int) then (if x10.length<17592186044416 then ((spec_l05Move.f x368000 x368001 x368002 x368003 x2 (rd t379 0)).bind fun bt387=>(spec_PlayField.l0 k x1 (wrap64 (1-x2)) bt375.2 (x10++[rd t379 0]) bt387.1 bt387.2.1 bt387.2.2.1 bt387.2.2.2)) else (none)) else (none)))) else (if 0<(bt375.1.length:Int) then (if x10.length<17592186044416 then ((spec_l05Move.f x368000 x368001 x368002 x368003 x2 (rd bt375.1 0)).bind fun bt396=>(spec_PlayField.l0 k x1 (wrap64 (1-x2)) bt375.2 (x10++[rd bt375.1 0]) bt396.1 bt396.2.1 bt396.2.2.1 bt396.2.2.2)) else (none)) else (none)))
def spec_PlayField.f (k:Nat) (a0_0:Int) (a0_1:Int) (a0_2:Int) (a0_3:Int) (a1:Int) (a2:Int):Option (List Int×Int):=(spec_l05Player.f k a0_0 a0_1 a0_2 a0_3 a1 a2).bind fun t368=>(if t368=0 then ((spec_l05Table.f k a0_0 a0_1 a0_2 a0_3).bind fun t369=>(spec_PlayField.l0 k a1 a2 t369 (([]:List Int)) a0_0 a0_1 a0_2 a0_3)) else (some (([]:List Int),t368)))
theorem spec_PlayField.calls (k:Nat) (a0_0:Int) (a0_1:Int) (a0_2:Int) (a0_3:Int) (a1:Int) (a2:Int) (r1:List Int) (r2:Int) (w:World) (h:spec_PlayField.f k a0_0 a0_1 a0_2 a0_3 a1 a2=some (r1,r2)):
 Calls Tryz.prog 7 #[.agg #[.int .i64 a0_0,.int .i64 a0_1,.int .i64 a0_2,.int .i64 a0_3],.int .i64 a1,.int .i64 a2] w fun e w'=>∃ v0_:Value,e=.returned (.tuple #[v0_,.int .i64 r2])∧Kd.R (Kd.int .i64) 2 w' w.heap.size (fun _=>True) v0_ r1∧Below w.heap.size w w':=by
 have hu25:=Tryz.underlying25
 have HB:=Aside0.mk (Below.refl w.heap.size w)
 have H:((spec_l05Player.f k a0_0 a0_1 a0_2 a0_3 a1 a2).bind fun t368=>(if t368=0 then ((spec_l05Table.f k a0_0 a0_1 a0_2 a0_3).bind fun t369=>(spec_PlayField.l0 k a1 a2 t369 (([]:List Int)) a0_0 a0_1 a0_2 a0_3)) else (some (([]:List Int),t368))))=some (r1,r2):=h
 clear h
 obtain ⟨t368,A4,H⟩:=zb H
 by_cases c5:t368=0
 ·rw [if_pos c5] at H
  have c5b0:=zq1 c5
  have c5b1:=zq2 c5
  clear c5
  obtain ⟨t369,A6,H⟩:=zb H
  obtain ⟨y372,hy372⟩:∃ y_:List Int,y_=(([]:List Int)):=⟨_,rfl⟩
  replace H:(spec_PlayField.l0 k a1 a2 t369 y372 a0_0 a0_1 a0_2 a0_3)=some (r1,r2):=by first|(rw [hy372];with_reducible exact H)|(have H2_:=(Option.bind_some _ _).symm.trans H;rw [hy372];with_reducible exact H2_)|(have H2_:=(Option.bind_some _ _).symm.trans H;with_reducible exact H2_)|with_reducible exact H|(rw [hy372];exact H)|exact H
  have Ny372:=Aside0.mk hy372
  clear hy372
  have H':=Aside0.mk H
  clear H
  go_enter Tryz.func7,Tryz.ntmps7
  go_wp2_with (first|((with_reducible refine gate_dst (N:=3) rfl ?_);refine zX 3 #[.int .i64 a0_0,.int .i64 a0_1,.int .i64 a0_2,.int .i64 a0_3] 25 ?_;intro gb367 hg w7 hbox hb;refine zA4 (below_step (zH HB.1) hb) (hbox) (zs hg HB:w.heap.size≤gb367) (zs hg HB:w.heap.size≤gb367) ?_;clear HB;intro HB BK367 GW367 GE367;clear hb hbox hg;obtain ⟨Z8_0,Z8_1,Z8_2,Z8_3⟩:=zc4 BK367;obtain ⟨V8_0,V8_1,V8_2,V8_3⟩:=zf4 BK367)|((with_reducible refine gate_callee (f:=32) rfl ?_);refine zL (some 15) Tryz.func32 #[.agg #[.int .i64 a0_0,.int .i64 a0_1,.int .i64 a0_2,.int .i64 a0_3],.int .i64 a1,.int .i64 a2] ?_;(with_reducible refine (spec_l05Player.calls k a0_0 a0_1 a0_2 a0_3 a1 a2 t368 _ A4.1).mono ?_);rintro e w9 ⟨rfl,hb⟩;refine ⟨_,rfl,?_⟩;refine zA2 (zY BK367.1 hb) (below_step (zH1 HB.1 GE367.1) hb) ?_;clear BK367 HB;intro BK367 HB;(try clear hb);(try clear hk);obtain ⟨Z10_0,Z10_1,Z10_2,Z10_3⟩:=zc4 BK367;obtain ⟨V10_0,V10_1,V10_2,V10_3⟩:=zf4 BK367)|((with_reducible refine gate_callee (f:=33) rfl ?_);refine zL (some 20) Tryz.func33 #[.agg #[.int .i64 a0_0,.int .i64 a0_1,.int .i64 a0_2,.int .i64 a0_3]] ?_;(with_reducible refine (spec_l05Table.calls k a0_0 a0_1 a0_2 a0_3 t369 _ A6.1).mono ?_);rintro e w11 ⟨v370,rfl,ho0,hb⟩;refine ⟨_,rfl,?_⟩;refine zA3 (Kd.R_lower ho0 (below_size (zH1 HB.1 GE367.1))) (zY BK367.1 hb) (below_step (zH1 HB.1 GE367.1) hb) ?_;clear BK367 HB;intro HO371 BK367 HB;(try clear hb);(try clear hk);(try clear ho0))|((with_reducible refine gate_dst (N:=21) rfl ?_);refine Kd.R_lit (Kd.int .i64) _ 2 ?hg (N:=21) ?hd (xs:=([]:List Int)) (inner:=[]) (ok:=fun _=>True) (okp:=fun _=>True) ?hr ?hp (fun _ hk=>hk) trivial (Below.refl _ _) (Nat.le_refl _) (by simp) ?_;(case hd=>rfl);(case hg=>rfl);(case hr=>first|(go_simp;done)|(go_simp;rfl));(case hp=>exact (Reps.none _ _));intro v373 w12 ho13 hb hg_ hnew_;clear hg_ hnew_;(first|rw [← Ny372.1] at ho13|(simp only [Int.reduceToNat] at ho13;rw [← Ny372.1] at ho13));refine zA4 (Kd.R_below (zR HO371.1) hb) (Kd.R_lower ho13 (below_size (zH1 HB.1 GE367.1))) (zY BK367.1 hb) (below_step (zH1 HB.1 GE367.1) hb) ?_;clear HO371 BK367 HB;intro HO371 HO374 BK367 HB;clear hb ho13))
  go_loopg [2,10] k (fun kq v2 v10 w'=>∃ (x2_1:Int) (x9_1:List Int) (x10_1:List Int) (x368000_1:Int) (x368001_1:Int) (x368002_1:Int) (x368003_1:Int),v2=.int .i64 x2_1∧Aside0 (spec_PlayField.l0 kq a1 x2_1 x9_1 x10_1 x368000_1 x368001_1 x368002_1 x368003_1=some (r1,r2))∧Aside0 (kq≤k)∧Aside0 (Kd.R (Kd.int .i8) 127 w' w.heap.size (fun _=>True) v370 x9_1)∧Aside0 (Kd.R (Kd.int .i64) 2 w' w.heap.size (fun _=>True) v10 x10_1)∧Aside0 (w'.heap[gb367]?=some (.cells #[.int .i64 x368000_1,.int .i64 x368001_1,.int .i64 x368002_1,.int .i64 x368003_1] 25 (0,0)))∧Aside0 (Below w.heap.size w w'))
  case atStart=>exact ⟨(a2),(t369),(y372),(a0_0),(a0_1),(a0_2),(a0_3),(zF),H',⟨Nat.le_refl _⟩,⟨zR HO371.1⟩,⟨zR HO374.1⟩,⟨zB BK367.1⟩,⟨zH1 HB.1 GE367.1⟩⟩
  case round=>
   clear H'
   try clear p2
   try clear c3
   try clear c5
   try clear c5b0
   try clear c5b1
   try clear c7
   try clear Z10_0 Z10_1 Z10_2 Z10_3
   try clear Z8_0 Z8_1 Z8_2 Z8_3
   try clear V10_0 V10_1 V10_2 V10_3
   try clear V8_0 V8_1 V8_2 V8_3
   obtain ⟨x2_1,x9_1,x10_1,x368000_1,x368001_1,x368002_1,x368003_1,rfl,HA,HK1,HO_9,HO_10,BK367,HB⟩:=hrel
   cases gk with
   |zero=>exact absurd HA.1 (by simp [spec_PlayField.l0])
   |succ k1=>
    have H:=HA.1
    clear HA
    simp only [spec_PlayField.l0] at H
    obtain ⟨⟨t375,t378⟩,A14,H⟩:=zb H;(try dsimp only at H)
    by_cases c15:(t375.length:Int)=0
    ·rw [if_pos c15] at H
     have c15b0:=zq1 c15
     have c15b1:=zq2 c15
     clear c15
     obtain ⟨t379,A16,H⟩:=zb H
     by_cases c17:(t379.length:Int)=0
     ·rw [if_pos c17] at H
      have c17b0:=zq1 c17
      have c17b1:=zq2 c17
      clear c17
      simp only [Option.some.injEq,Prod.mk.injEq] at H
      obtain ⟨rfl,rfl⟩:=H
      obtain ⟨Z18_0,Z18_1,Z18_2,Z18_3⟩:=zc4 BK367
      obtain ⟨V18_0,V18_1,V18_2,V18_3⟩:=zf4 BK367
      obtain ⟨Ao19,co19,eo19⟩:=Kd.R_slice HO_9.1
      subst eo19
      go_wp2_with (first|((with_reducible refine gate_callee (f:=34) rfl ?_);refine zL (some 26) Tryz.func34 #[.agg #[.int .i64 x368000_1,.int .i64 x368001_1,.int .i64 x368002_1,.int .i64 x368003_1],.int .i64 a1,.int .i64 x2_1,.slice Ao19 x9_1.length co19] ?_;(with_reducible refine (spec_l05Best.calls k1 x368000_1 x368001_1 x368002_1 x368003_1 a1 x2_1 (fun k_=>some k_=(.slice Ao19 x9_1.length co19:Value).ownBlock) (.slice Ao19 x9_1.length co19) x9_1 t375 t378 w _ ?side1 ?side2 A14.1).mono ?_);(case side1=>exact zH1 HB.1 GE367.1);(case side2=>exact Kd.R_tight rfl HO_9.1);rintro e w20 ⟨v376,rfl,ho0,hy0,hb,hkp⟩;refine ⟨_,rfl,?_⟩;refine zA5 (Kd.R_reok rfl hy0 (fun k_ e_=>HO_9.1.1 k_ e_)) (Kd.R_mono (ok':=fun k_=>some k_≠(v376:Value).ownBlock) (Kd.R_keptB ((Kd.R_apart' HO_10.1 (Kd.R_typed HO_9.1) (by decide))) hkp (fun k_ hk_ hs_=>(hk_.2) hs_)) (fun k_ hk_=>fun e_=>Or.elim (ho0.1 k_ e_.symm) (fun hs_=>hk_.2.1 hs_) (fun hn_=>Nat.not_le.2 hk_.2.2 hn_))) (blk_kept (zB BK367.1) hkp (fun hs_=>(fun e_=>(Kd.R_ne HO_9.1 BK367.1 (by decide)) e_) hs_)) (Kd.R_mono (ok':=fun k_=>some k_≠(u10:Value).ownBlock) ho0 (fun k_ hk_=>Or.elim hk_ (fun hs_=>fun e_=>((((Kd.R_apart' HO_10.1 (Kd.R_typed HO_9.1) (by decide))).1 k_ e_.symm).2) hs_) (fun hn_=>(Kd.fresh' (Kd.R_lt (zR HO_10.1)) k_ hn_)))) (hb) ?_;clear HO_9 HO_10 BK367 HB;intro HO_9 HO_10 BK367 HO377 HB;(try clear hb);(try clear hkp);(try clear ho0);(try clear hy0);obtain ⟨Ao21,co21,eo21⟩:=Kd.R_slice HO377.1;subst eo21;obtain ⟨Z22_0,Z22_1,Z22_2,Z22_3⟩:=zc4 BK367;obtain ⟨V22_0,V22_1,V22_2,V22_3⟩:=zf4 BK367)|((with_reducible refine gate_callee (f:=35) rfl ?_);refine zL (some 33) Tryz.func35 #[.agg #[.int .i64 x368000_1,.int .i64 x368001_1,.int .i64 x368002_1,.int .i64 x368003_1],.int .i64 a1,.int .i64 x2_1] ?_;(with_reducible refine (spec_l05Points.calls k1 x368000_1 x368001_1 x368002_1 x368003_1 a1 x2_1 t379 _ A16.1).mono ?_);rintro e w23 ⟨v380,rfl,ho0,hb⟩;refine ⟨_,rfl,?_⟩;refine zA6 (Kd.R_below (zR HO_9.1) hb) (Kd.R_elder' (zR HO_10.1) (Kd.R_base ho0) hb) (Kd.R_elder' (zR HO377.1) (Kd.R_base ho0) hb) (Kd.R_lower (Kd.R_new' (Kd.R_new' ho0 (Kd.R_lt (zR HO_10.1))) (Kd.R_lt (zR HO377.1))) (below_size (zH1 HB.1 GE367.1))) (zY BK367.1 hb) (below_step (zH1 HB.1 GE367.1) hb) ?_;clear HO_9 HO_10 HO377 BK367 HB;intro HO_9 HO_10 HO377 HO381 BK367 HB;(try clear hb);(try clear ho0);obtain ⟨Ao24,co24,eo24⟩:=Kd.R_slice HO381.1;subst eo24))
      go_ret2
      exact ⟨_,zE,by (with_reducible repeat (first|apply Kd.R_alloc|apply Kd.R_drewN|apply Kd.R_drew));exact Kd.R_mono HO_10.1 (fun _ hk=>trivial),zH1 HB.1 GE367.1⟩
     ·rw [if_neg c17] at H
      have c17b0:=zq3 c17
      have c17b1:=zq4 c17
      have c17b2:¬ (t379=[]):=fun h_=>c17 (by rw [h_];rfl)
      by_cases c25:0<(t379.length:Int)
      ·rw [if_pos c25] at H
       have c25b0:=decide_eq_true c25
       have c25b1:decide (0<t379.length)=true:=decide_eq_true (by omega)
       clear c25
       by_cases c26:x10_1.length<17592186044416
       ·rw [if_pos c26] at H
        have LMc26:=Aside0.mk c26
        clear c26
        obtain ⟨y383,hy383⟩:∃ y_:List Int,y_=(x10_1++[rd t379 0]):=⟨_,rfl⟩
        replace H:((spec_l05Move.f x368000_1 x368001_1 x368002_1 x368003_1 x2_1 (rd t379 0)).bind fun bt387=>(spec_PlayField.l0 k1 a1 (wrap64 (1-x2_1)) t378 y383 bt387.1 bt387.2.1 bt387.2.2.1 bt387.2.2.2))=some (r1,r2):=by first|(rw [hy383];with_reducible exact H)|(have H2_:=(Option.bind_some _ _).symm.trans H;rw [hy383];with_reducible exact H2_)|(have H2_:=(Option.bind_some _ _).symm.trans H;with_reducible exact H2_)|with_reducible exact H|(rw [hy383];exact H)|exact H
        have Ny383:=Aside0.mk hy383
        clear hy383
        obtain ⟨⟨t387,t388,t389,t390⟩,A27,H⟩:=zb H;(try dsimp only at H)
        have H':=Aside0.mk H
        clear H
        obtain ⟨Z28_0,Z28_1,Z28_2,Z28_3⟩:=zc4 BK367
        obtain ⟨V28_0,V28_1,V28_2,V28_3⟩:=zf4 BK367
        obtain ⟨Ao29,co29,eo29⟩:=Kd.R_slice HO_9.1
        subst eo29
        try go_wp2_with (first|((with_reducible refine gate_callee (f:=34) rfl ?_);refine zL (some 26) Tryz.func34 #[.agg #[.int .i64 x368000_1,.int .i64 x368001_1,.int .i64 x368002_1,.int .i64 x368003_1],.int .i64 a1,.int .i64 x2_1,.slice Ao29 x9_1.length co29] ?_;(with_reducible refine (spec_l05Best.calls k1 x368000_1 x368001_1 x368002_1 x368003_1 a1 x2_1 (fun k_=>some k_=(.slice Ao29 x9_1.length co29:Value).ownBlock) (.slice Ao29 x9_1.length co29) x9_1 t375 t378 w _ ?side1 ?side2 A14.1).mono ?_);(case side1=>exact zH1 HB.1 GE367.1);(case side2=>exact Kd.R_tight rfl HO_9.1);rintro e w30 ⟨v376,rfl,ho0,hy0,hb,hkp⟩;refine ⟨_,rfl,?_⟩;refine zA5 (Kd.R_reok rfl hy0 (fun k_ e_=>HO_9.1.1 k_ e_)) (Kd.R_mono (ok':=fun k_=>some k_≠(v376:Value).ownBlock) (Kd.R_keptB ((Kd.R_apart' HO_10.1 (Kd.R_typed HO_9.1) (by decide))) hkp (fun k_ hk_ hs_=>(hk_.2) hs_)) (fun k_ hk_=>fun e_=>Or.elim (ho0.1 k_ e_.symm) (fun hs_=>hk_.2.1 hs_) (fun hn_=>Nat.not_le.2 hk_.2.2 hn_))) (blk_kept (zB BK367.1) hkp (fun hs_=>(fun e_=>(Kd.R_ne HO_9.1 BK367.1 (by decide)) e_) hs_)) (Kd.R_mono (ok':=fun k_=>some k_≠(u10:Value).ownBlock) ho0 (fun k_ hk_=>Or.elim hk_ (fun hs_=>fun e_=>((((Kd.R_apart' HO_10.1 (Kd.R_typed HO_9.1) (by decide))).1 k_ e_.symm).2) hs_) (fun hn_=>(Kd.fresh' (Kd.R_lt (zR HO_10.1)) k_ hn_)))) (hb) ?_;clear HO_9 HO_10 BK367 HB;intro HO_9 HO_10 BK367 HO377 HB;(try clear hb);(try clear hkp);(try clear ho0);(try clear hy0);obtain ⟨Ao31,co31,eo31⟩:=Kd.R_slice HO377.1;subst eo31;obtain ⟨Z32_0,Z32_1,Z32_2,Z32_3⟩:=zc4 BK367;obtain ⟨V32_0,V32_1,V32_2,V32_3⟩:=zf4 BK367)|((with_reducible refine gate_callee (f:=35) rfl ?_);refine zL (some 33) Tryz.func35 #[.agg #[.int .i64 x368000_1,.int .i64 x368001_1,.int .i64 x368002_1,.int .i64 x368003_1],.int .i64 a1,.int .i64 x2_1] ?_;(with_reducible refine (spec_l05Points.calls k1 x368000_1 x368001_1 x368002_1 x368003_1 a1 x2_1 t379 _ A16.1).mono ?_);rintro e w33 ⟨v380,rfl,ho0,hb⟩;refine ⟨_,rfl,?_⟩;refine zA6 (Kd.R_below (zR HO_9.1) hb) (Kd.R_elder' (zR HO_10.1) (Kd.R_base ho0) hb) (Kd.R_elder' (zR HO377.1) (Kd.R_base ho0) hb) (Kd.R_lower (Kd.R_new' (Kd.R_new' ho0 (Kd.R_lt (zR HO_10.1))) (Kd.R_lt (zR HO377.1))) (below_size (zH1 HB.1 GE367.1))) (zY BK367.1 hb) (below_step (zH1 HB.1 GE367.1) hb) ?_;clear HO_9 HO_10 HO377 BK367 HB;intro HO_9 HO_10 HO377 HO381 BK367 HB;(try clear hb);(try clear hk);(try clear ho0);obtain ⟨Ao34,co34,eo34⟩:=Kd.R_slice HO381.1;subst eo34;have p382:0≤(0:Int):=(by omega);have q382:0<(t379.length:Int):=zo;obtain ⟨ad382,e382,hx382_0⟩:=Kd.at_int (Kd.R_reads' HO381.1).2.2 0 p382 q382;cases e382;have qi382:(0<t379.length)=True:=eq_true (by omega);(try rw [show ((0:Int)).toNat=0 from rfl] at hx382_0);(try rw [Addr.add_zero'] at hx382_0);replace p382:=eq_true p382;replace q382:=eq_true q382)|((with_reducible refine gate_builtin (b:=.append) (xs:=#[.tmp 38,.tmp 42]) rfl ?_);at_builtin;refine Kd.R_append (Kd.int .i64) (w0:=w) w.heap.size rfl (.tmp 38) (.tmp 42) 28 2 (.int .i64 0) 8 rfl Tryz.underlying28 info2 rfl (by decide) (by omega) u10 x10_1 (rd t379 0) [.int .i64 (rd t379 0)] (fun k_=>some k_≠(.slice Ao31 t375.length co31:Value).ownBlock∧some k_≠(.slice (some ad382) t379.length co34:Value).ownBlock) (fun _=>False) rfl rfl ?aP (fun _ hk=>hk.elim) ?aF ?aO ?aB ?aS ?aL ?_;(case aP=>exact rfl);(case aB=>exact (zH1 HB.1 GE367.1));(case aF=>exact (fun k_ hk=>⟨Kd.fresh' (Kd.R_lt (zR HO377.1)) k_ hk,Kd.fresh' (Kd.R_lt (zR HO381.1)) k_ hk⟩));(case aO=>exact (zR HO_10.1));(case aS=>exact (below_size (zH1 HB.1 GE367.1)));(case aL=>have:=LMc26.1;omega);intro v384 w35 ho hb hg hat;rw [← Ny383.1] at ho;refine zA6 (Kd.R_over' (zR HO_9.1) (Kd.R_typed (zR HO_10.1)) (by decide) hg) (blk_grown (g:=gb367) (o:=.cells #[.int .i64 x368000_1,.int .i64 x368001_1,.int .i64 x368002_1,.int .i64 x368003_1] 25 (0,0)) (zB BK367.1) hg (Kd.R_ne HO_10.1 BK367.1 (by decide))) (Kd.R_after (ok:=(fun k_=>some k_≠(.slice (some ad382) t379.length co34:Value).ownBlock)) (zRm HO377.1 (fun _ hk=>⟨hk.2,hk.1⟩)) hg hat) (Kd.R_after (ok:=(fun k_=>some k_≠(.slice Ao31 t375.length co31:Value).ownBlock)) (zRm HO381.1 (fun _ hk=>⟨hk.2,hk.1.2⟩)) hg hat) (hb) (ho) ?_;clear HO_9 BK367 HO377 HO381 HB HO_10;intro HO_9 BK367 HO377 HO381 HB HO385;clear ho hb hg hat))
        refine zA6 (Kd.R_drew HO_9.1) (Kd.R_drew HO377.1) (Kd.R_drew HO381.1) (Kd.R_drew HO385.1) (blk_drew BK367.1) (below_drew1 HB.1) ?_
        clear HO_9 HO377 HO381 HO385 BK367 HB
        intro HO_9 HO377 HO381 HO385 BK367 HB
        have p386:0≤(0:Int):=(by omega)
        have q386:0<(t379.length:Int):=zo
        obtain ⟨ad386,e386,hx386_0⟩:=Kd.at_int (Kd.R_reads' HO381.1).2.2 0 p386 q386
        obtain rfl:ad382=ad386:=(by injection e386)
        have qi386:(0<t379.length)=True:=eq_true (by omega)
        (try rw [show ((0:Int)).toNat=0 from rfl] at hx386_0)
        (try rw [Addr.add_zero'] at hx386_0)
        replace p386:=eq_true p386
        replace q386:=eq_true q386
        refine start_ (n:=7) (S:=fun w'=>w'.cell? ⟨gb367,0,none⟩=some (.int .i64 x368000_1)∧w'.cell? ⟨gb367,1,none⟩=some (.int .i64 x368001_1)∧w'.cell? ⟨gb367,2,none⟩=some (.int .i64 x368002_1)∧w'.cell? ⟨gb367,3,none⟩=some (.int .i64 x368003_1)∧w'.cell? ad382=some (.int .i64 (rd t379 0))) (ds:=[6]) #[false,false,false,false,false,false,false] (by kernel_rfl) rfl rfl ⟨zx BK367 0,zx BK367 1,zx BK367 2,zx BK367 3,hx386_0⟩ (fun hHeld=>?_)
        generalize w35.drew=w36 at HO_9 HO377 HO381 HO385 BK367 HB hx386_0 hHeld ⊢
        refine zp 1 (some 45) rfl rfl ?_
        refine zp 2 (some 46) rfl rfl ?_
        refine zp 3 (some 47) rfl rfl ?_
        refine take_ (i:=0) (N:=some 44) (v:=?_) (a':=?_) #[true,true,true,true,false,false,false] rfl rfl (by kernel_rfl) (fun _ _ _ h=>h) (Or.inl ⟨by rfl,?_⟩) hHeld ?_ ?_
        rotate_left
        ·rintro w' ⟨s0,s1,s2,s3,s4⟩
         go_simp
         with_reducible rfl
        rotate_left
        ·simp only [Act.put,List.setIfInBounds_toArray,List.set_cons_zero,List.set_cons_succ,i64_w,i32_w]
         rfl
        refine take_ (i:=4) (N:=some 48) (v:=?_) (a':=?_) #[true,true,true,true,true,false,false] rfl rfl (by kernel_rfl) (fun _ _ _ h=>h) (Or.inl ⟨by rfl,?_⟩) hHeld ?_ ?_
        rotate_left
        ·rintro w' ⟨s0,s1,s2,s3,s4⟩
         go_simp
         with_reducible rfl
        rotate_left
        ·simp only [Act.put,List.setIfInBounds_toArray,List.set_cons_zero,List.set_cons_succ,i64_w,i32_w]
         rfl
        refine one_ (i:=5) (N:=some 49) #[true,true,true,true,true,true,false] rfl rfl (by kernel_rfl) (by decide) (fun K hK=>?_)
        refine goes_ Tryz.func36 (by kernel_rfl) rfl #[.agg #[.int .i64 x368000_1,.int .i64 x368001_1,.int .i64 x368002_1,.int .i64 x368003_1],.int .i64 x2_1,.int .i64 (rd t379 0)] (by rfl) rfl rfl zM ?_
        with_reducible refine (spec_l05Move.calls x368000_1 x368001_1 x368002_1 x368003_1 x2_1 (rd t379 0) t387 t388 t389 t390 _ A27.1).mono ?_
        rintro e w37 ⟨rfl,hb⟩
        have HS4_:=(hb.cell (World.block_lt_of_cell? _ _ (hHeld.2.2.2.2))).trans (hHeld.2.2.2.2)
        refine ⟨_,rfl,?_⟩
        refine zA6 (Kd.R_below (zR HO_9.1) hb) (Kd.R_below (zR HO377.1) hb) (Kd.R_below (zR HO381.1) hb) (Kd.R_below (zR HO385.1) hb) (zY BK367.1 hb) (below_step (zH1 HB.1 GE367.1) hb) ?_
        clear HO_9 HO377 HO381 HO385 BK367 HB
        intro HO_9 HO377 HO381 HO385 BK367 HB
        (try clear hb)
        (try clear hb2)
        (try clear hk)
        (try clear hi)
        refine hK.out _ _ ⟨zx BK367 0,zx BK367 1,zx BK367 2,zx BK367 3,HS4_⟩ (fun hHeld=>?_)
        clear hK K
        refine zW (some 49) ?_
        refine last_ (i:=6) (N:=none) #[true,true,true,true,true,true,true] rfl rfl (by kernel_rfl) (by decide) (fun K hK=>?_)
        have hs38:w37.cell? ⟨gb367,0,none⟩=some (.int .i64 x368000_1):=zx BK367 0
        have hfs38:=blk_frozen BK367.1 0
        have hs39:w37.cell? ⟨gb367,1,none⟩=some (.int .i64 x368001_1):=zx BK367 1
        have hfs39:=blk_frozen BK367.1 1
        have hs40:w37.cell? ⟨gb367,2,none⟩=some (.int .i64 x368002_1):=zx BK367 2
        have hfs40:=blk_frozen BK367.1 2
        have hs41:w37.cell? ⟨gb367,3,none⟩=some (.int .i64 x368003_1):=zx BK367 3
        have hfs41:=blk_frozen BK367.1 3
        refine skip_ (w1:=?_) (by rfl) rfl ?_ ?_
        rotate_left
        ·go_simp
         rfl
        refine hK.out _ _ ?_
        clear hK K
        refine done_ (by kernel_rfl) ?_
        try go_wp2
        go_roundg k1
        case measure=>have:=HK1.1;omega
        case rel=>exact ⟨(wrap64 (1-x2_1)),(t378),(y383),(t387),(t388),(t389),(t390),(zF),H',⟨by have:=HK1.1;omega⟩,⟨zRm (Kd.R_far (p:=⟨gb367,3,none⟩) (Kd.R_far (p:=⟨gb367,2,none⟩) (Kd.R_far (p:=⟨gb367,1,none⟩) (Kd.R_far (p:=⟨gb367,0,none⟩) (Kd.R_types HO_9.1 BK367.1 (by decide)) (fun _ hk=>hk.2) (.int .i64 t387)) (fun _ hk=>hk.2) (.int .i64 t388)) (fun _ hk=>hk.2) (.int .i64 t389)) (fun _ hk=>hk.2) (.int .i64 t390)) (fun _ hk=>trivial)⟩,⟨zRm (Kd.R_far (p:=⟨gb367,3,none⟩) (Kd.R_far (p:=⟨gb367,2,none⟩) (Kd.R_far (p:=⟨gb367,1,none⟩) (Kd.R_far (p:=⟨gb367,0,none⟩) (Kd.R_types HO385.1 BK367.1 (by decide)) (fun _ hk=>hk.2) (.int .i64 t387)) (fun _ hk=>hk.2) (.int .i64 t388)) (fun _ hk=>hk.2) (.int .i64 t389)) (fun _ hk=>hk.2) (.int .i64 t390)) (fun _ hk=>trivial)⟩,⟨zQ BK367.1⟩,⟨zH1 HB.1 GE367.1⟩⟩
       ·rw [if_neg c26] at H
        exact absurd H (by simp)
      ·rw [if_neg c25] at H
       exact absurd H (by simp)
    ·rw [if_neg c15] at H
     have c15b0:=zq3 c15
     have c15b1:=zq4 c15
     have c15b2:¬ (t375=[]):=fun h_=>c15 (by rw [h_];rfl)
     by_cases c42:0<(t375.length:Int)
     ·rw [if_pos c42] at H
      have c42b0:=decide_eq_true c42
      have c42b1:decide (0<t375.length)=true:=decide_eq_true (by omega)
      clear c42
      by_cases c43:x10_1.length<17592186044416
      ·rw [if_pos c43] at H
       have LMc43:=Aside0.mk c43
       clear c43
       obtain ⟨y392,hy392⟩:∃ y_:List Int,y_=(x10_1++[rd t375 0]):=⟨_,rfl⟩
       replace H:((spec_l05Move.f x368000_1 x368001_1 x368002_1 x368003_1 x2_1 (rd t375 0)).bind fun bt396=>(spec_PlayField.l0 k1 a1 (wrap64 (1-x2_1)) t378 y392 bt396.1 bt396.2.1 bt396.2.2.1 bt396.2.2.2))=some (r1,r2):=by first|(rw [hy392];with_reducible exact H)|(have H2_:=(Option.bind_some _ _).symm.trans H;rw [hy392];with_reducible exact H2_)|(have H2_:=(Option.bind_some _ _).symm.trans H;with_reducible exact H2_)|with_reducible exact H|(rw [hy392];exact H)|exact H
       have Ny392:=Aside0.mk hy392
       clear hy392
       obtain ⟨⟨t396,t397,t398,t399⟩,A44,H⟩:=zb H;(try dsimp only at H)
       have H':=Aside0.mk H
       clear H
       obtain ⟨Z45_0,Z45_1,Z45_2,Z45_3⟩:=zc4 BK367
       obtain ⟨V45_0,V45_1,V45_2,V45_3⟩:=zf4 BK367
       obtain ⟨Ao46,co46,eo46⟩:=Kd.R_slice HO_9.1
       subst eo46
       try go_wp2_with (first|((with_reducible refine gate_callee (f:=34) rfl ?_);refine zL (some 26) Tryz.func34 #[.agg #[.int .i64 x368000_1,.int .i64 x368001_1,.int .i64 x368002_1,.int .i64 x368003_1],.int .i64 a1,.int .i64 x2_1,.slice Ao46 x9_1.length co46] ?_;(with_reducible refine (spec_l05Best.calls k1 x368000_1 x368001_1 x368002_1 x368003_1 a1 x2_1 (fun k_=>some k_=(.slice Ao46 x9_1.length co46:Value).ownBlock) (.slice Ao46 x9_1.length co46) x9_1 t375 t378 w _ ?side1 ?side2 A14.1).mono ?_);(case side1=>exact zH1 HB.1 GE367.1);(case side2=>exact Kd.R_tight rfl HO_9.1);rintro e w47 ⟨v376,rfl,ho0,hy0,hb,hkp⟩;refine ⟨_,rfl,?_⟩;refine zA5 (Kd.R_reok rfl hy0 (fun k_ e_=>HO_9.1.1 k_ e_)) (Kd.R_mono (ok':=fun k_=>some k_≠(v376:Value).ownBlock) (Kd.R_keptB ((Kd.R_apart' HO_10.1 (Kd.R_typed HO_9.1) (by decide))) hkp (fun k_ hk_ hs_=>(hk_.2) hs_)) (fun k_ hk_=>fun e_=>Or.elim (ho0.1 k_ e_.symm) (fun hs_=>hk_.2.1 hs_) (fun hn_=>Nat.not_le.2 hk_.2.2 hn_))) (blk_kept (zB BK367.1) hkp (fun hs_=>(fun e_=>(Kd.R_ne HO_9.1 BK367.1 (by decide)) e_) hs_)) (Kd.R_mono (ok':=fun k_=>some k_≠(u10:Value).ownBlock) ho0 (fun k_ hk_=>Or.elim hk_ (fun hs_=>fun e_=>((((Kd.R_apart' HO_10.1 (Kd.R_typed HO_9.1) (by decide))).1 k_ e_.symm).2) hs_) (fun hn_=>(Kd.fresh' (Kd.R_lt (zR HO_10.1)) k_ hn_)))) (hb) ?_;clear HO_9 HO_10 BK367 HB;intro HO_9 HO_10 BK367 HO377 HB;(try clear hb);(try clear hkp);(try clear ho0);(try clear hy0);obtain ⟨Ao48,co48,eo48⟩:=Kd.R_slice HO377.1;subst eo48;have p391:0≤(0:Int):=(by omega);have q391:0<(t375.length:Int):=zo;obtain ⟨ad391,e391,hx391_0⟩:=Kd.at_int (Kd.R_reads' HO377.1).2.2 0 p391 q391;cases e391;have qi391:(0<t375.length)=True:=eq_true (by omega);(try rw [show ((0:Int)).toNat=0 from rfl] at hx391_0);(try rw [Addr.add_zero'] at hx391_0);replace p391:=eq_true p391;replace q391:=eq_true q391)|((with_reducible refine gate_builtin (b:=.append) (xs:=#[.tmp 38,.tmp 42]) rfl ?_);at_builtin;refine Kd.R_append (Kd.int .i64) (w0:=w) w.heap.size rfl (.tmp 38) (.tmp 42) 28 2 (.int .i64 0) 8 rfl Tryz.underlying28 info2 rfl (by decide) (by omega) u10 x10_1 (rd t375 0) [.int .i64 (rd t375 0)] (fun k_=>some k_≠(.slice (some ad391) t375.length co48:Value).ownBlock) (fun _=>False) rfl rfl ?aP (fun _ hk=>hk.elim) ?aF ?aO ?aB ?aS ?aL ?_;(case aP=>exact rfl);(case aB=>exact (zH1 HB.1 GE367.1));(case aF=>exact (fun k_ hk=>Kd.fresh' (Kd.R_lt (zR HO377.1)) k_ hk));(case aO=>exact (zR HO_10.1));(case aS=>exact (below_size (zH1 HB.1 GE367.1)));(case aL=>have:=LMc43.1;omega);intro v393 w49 ho hb hg hat;rw [← Ny392.1] at ho;refine zA5 (Kd.R_over' (zR HO_9.1) (Kd.R_typed (zR HO_10.1)) (by decide) hg) (blk_grown (g:=gb367) (o:=.cells #[.int .i64 x368000_1,.int .i64 x368001_1,.int .i64 x368002_1,.int .i64 x368003_1] 25 (0,0)) (zB BK367.1) hg (Kd.R_ne HO_10.1 BK367.1 (by decide))) (Kd.R_after (ok:=(fun _=>True)) (zRm HO377.1 (fun _ hk=>⟨trivial,hk⟩)) hg hat) (hb) (ho) ?_;clear HO_9 BK367 HO377 HB HO_10;intro HO_9 BK367 HO377 HB HO394;clear ho hb hg hat))
       refine zA5 (Kd.R_drew HO_9.1) (Kd.R_drew HO377.1) (Kd.R_drew HO394.1) (blk_drew BK367.1) (below_drew1 HB.1) ?_
       clear HO_9 HO377 HO394 BK367 HB
       intro HO_9 HO377 HO394 BK367 HB
       have p395:0≤(0:Int):=(by omega)
       have q395:0<(t375.length:Int):=zo
       obtain ⟨ad395,e395,hx395_0⟩:=Kd.at_int (Kd.R_reads' HO377.1).2.2 0 p395 q395
       obtain rfl:ad391=ad395:=(by injection e395)
       have qi395:(0<t375.length)=True:=eq_true (by omega)
       (try rw [show ((0:Int)).toNat=0 from rfl] at hx395_0)
       (try rw [Addr.add_zero'] at hx395_0)
       replace p395:=eq_true p395
       replace q395:=eq_true q395
       refine start_ (n:=7) (S:=fun w'=>w'.cell? ⟨gb367,0,none⟩=some (.int .i64 x368000_1)∧w'.cell? ⟨gb367,1,none⟩=some (.int .i64 x368001_1)∧w'.cell? ⟨gb367,2,none⟩=some (.int .i64 x368002_1)∧w'.cell? ⟨gb367,3,none⟩=some (.int .i64 x368003_1)∧w'.cell? ad391=some (.int .i64 (rd t375 0))) (ds:=[6]) #[false,false,false,false,false,false,false] (by kernel_rfl) rfl rfl ⟨zx BK367 0,zx BK367 1,zx BK367 2,zx BK367 3,hx395_0⟩ (fun hHeld=>?_)
       generalize w49.drew=w50 at HO_9 HO377 HO394 BK367 HB hx395_0 hHeld ⊢
       refine zp 1 (some 45) rfl rfl ?_
       refine zp 2 (some 46) rfl rfl ?_
       refine zp 3 (some 47) rfl rfl ?_
       refine take_ (i:=0) (N:=some 44) (v:=?_) (a':=?_) #[true,true,true,true,false,false,false] rfl rfl (by kernel_rfl) (fun _ _ _ h=>h) (Or.inl ⟨by rfl,?_⟩) hHeld ?_ ?_
       rotate_left
       ·rintro w' ⟨s0,s1,s2,s3,s4⟩
        go_simp
        with_reducible rfl
       rotate_left
       ·simp only [Act.put,List.setIfInBounds_toArray,List.set_cons_zero,List.set_cons_succ,i64_w,i32_w]
        rfl
       refine take_ (i:=4) (N:=some 48) (v:=?_) (a':=?_) #[true,true,true,true,true,false,false] rfl rfl (by kernel_rfl) (fun _ _ _ h=>h) (Or.inl ⟨by rfl,?_⟩) hHeld ?_ ?_
       rotate_left
       ·rintro w' ⟨s0,s1,s2,s3,s4⟩
        go_simp
        with_reducible rfl
       rotate_left
       ·simp only [Act.put,List.setIfInBounds_toArray,List.set_cons_zero,List.set_cons_succ,i64_w,i32_w]
        rfl
       refine one_ (i:=5) (N:=some 49) #[true,true,true,true,true,true,false] rfl rfl (by kernel_rfl) (by decide) (fun K hK=>?_)
       refine goes_ Tryz.func36 (by kernel_rfl) rfl #[.agg #[.int .i64 x368000_1,.int .i64 x368001_1,.int .i64 x368002_1,.int .i64 x368003_1],.int .i64 x2_1,.int .i64 (rd t375 0)] (by rfl) rfl rfl zM ?_
       with_reducible refine (spec_l05Move.calls x368000_1 x368001_1 x368002_1 x368003_1 x2_1 (rd t375 0) t396 t397 t398 t399 _ A44.1).mono ?_
       rintro e w51 ⟨rfl,hb⟩
       have HS4_:=(hb.cell (World.block_lt_of_cell? _ _ (hHeld.2.2.2.2))).trans (hHeld.2.2.2.2)
       refine ⟨_,rfl,?_⟩
       refine zA5 (Kd.R_below (zR HO_9.1) hb) (Kd.R_below (zR HO377.1) hb) (Kd.R_below (zR HO394.1) hb) (zY BK367.1 hb) (below_step (zH1 HB.1 GE367.1) hb) ?_
       clear HO_9 HO377 HO394 BK367 HB
       intro HO_9 HO377 HO394 BK367 HB
       (try clear hb)
       (try clear hb2)
       (try clear hk)
       (try clear hi)
       refine hK.out _ _ ⟨zx BK367 0,zx BK367 1,zx BK367 2,zx BK367 3,HS4_⟩ (fun hHeld=>?_)
       clear hK K
       refine zW (some 49) ?_
       refine last_ (i:=6) (N:=none) #[true,true,true,true,true,true,true] rfl rfl (by kernel_rfl) (by decide) (fun K hK=>?_)
       have hs52:w51.cell? ⟨gb367,0,none⟩=some (.int .i64 x368000_1):=zx BK367 0
       have hfs52:=blk_frozen BK367.1 0
       have hs53:w51.cell? ⟨gb367,1,none⟩=some (.int .i64 x368001_1):=zx BK367 1
       have hfs53:=blk_frozen BK367.1 1
       have hs54:w51.cell? ⟨gb367,2,none⟩=some (.int .i64 x368002_1):=zx BK367 2
       have hfs54:=blk_frozen BK367.1 2
       have hs55:w51.cell? ⟨gb367,3,none⟩=some (.int .i64 x368003_1):=zx BK367 3
       have hfs55:=blk_frozen BK367.1 3
       refine skip_ (w1:=?_) (by rfl) rfl ?_ ?_
       rotate_left
       ·go_simp
        rfl
       refine hK.out _ _ ?_
       clear hK K
       refine done_ (by kernel_rfl) ?_
       try go_wp2
       go_roundg k1
       case measure=>have:=HK1.1;omega
       case rel=>exact ⟨(wrap64 (1-x2_1)),(t378),(y392),(t396),(t397),(t398),(t399),(zF),H',⟨by have:=HK1.1;omega⟩,⟨zRm (Kd.R_far (p:=⟨gb367,3,none⟩) (Kd.R_far (p:=⟨gb367,2,none⟩) (Kd.R_far (p:=⟨gb367,1,none⟩) (Kd.R_far (p:=⟨gb367,0,none⟩) (Kd.R_types HO_9.1 BK367.1 (by decide)) (fun _ hk=>hk.2) (.int .i64 t396)) (fun _ hk=>hk.2) (.int .i64 t397)) (fun _ hk=>hk.2) (.int .i64 t398)) (fun _ hk=>hk.2) (.int .i64 t399)) (fun _ hk=>trivial)⟩,⟨zRm (Kd.R_far (p:=⟨gb367,3,none⟩) (Kd.R_far (p:=⟨gb367,2,none⟩) (Kd.R_far (p:=⟨gb367,1,none⟩) (Kd.R_far (p:=⟨gb367,0,none⟩) (Kd.R_types HO394.1 BK367.1 (by decide)) (fun _ hk=>hk.2) (.int .i64 t396)) (fun _ hk=>hk.2) (.int .i64 t397)) (fun _ hk=>hk.2) (.int .i64 t398)) (fun _ hk=>hk.2) (.int .i64 t399)) (fun _ hk=>trivial)⟩,⟨zQ BK367.1⟩,⟨zH1 HB.1 GE367.1⟩⟩
      ·rw [if_neg c43] at H
       exact absurd H (by simp)
     ·rw [if_neg c42] at H
      exact absurd H (by simp)
 ·rw [if_neg c5] at H
  have c5b0:=zq3 c5
  have c5b1:=zq4 c5
  simp only [Option.some.injEq,Prod.mk.injEq] at H
  obtain ⟨rfl,rfl⟩:=H
  go_enter Tryz.func7,Tryz.ntmps7
  go_wp2_with (first|((with_reducible refine gate_dst (N:=3) rfl ?_);refine zX 3 #[.int .i64 a0_0,.int .i64 a0_1,.int .i64 a0_2,.int .i64 a0_3] 25 ?_;intro gb367 hg w56 hbox hb;refine zA4 (below_step (zH HB.1) hb) (hbox) (zs hg HB:w.heap.size≤gb367) (zs hg HB:w.heap.size≤gb367) ?_;clear HB;intro HB BK367 GW367 GE367;clear hb hbox hg;obtain ⟨Z57_0,Z57_1,Z57_2,Z57_3⟩:=zc4 BK367;obtain ⟨V57_0,V57_1,V57_2,V57_3⟩:=zf4 BK367)|((with_reducible refine gate_callee (f:=32) rfl ?_);refine zL (some 15) Tryz.func32 #[.agg #[.int .i64 a0_0,.int .i64 a0_1,.int .i64 a0_2,.int .i64 a0_3],.int .i64 a1,.int .i64 a2] ?_;(with_reducible refine (spec_l05Player.calls k a0_0 a0_1 a0_2 a0_3 a1 a2 t368 _ A4.1).mono ?_);rintro e w58 ⟨rfl,hb⟩;refine ⟨_,rfl,?_⟩;refine zA2 (zY BK367.1 hb) (below_step (zH1 HB.1 GE367.1) hb) ?_;clear BK367 HB;intro BK367 HB;(try clear hb)))
  go_ret2
  exact ⟨_,zE,by first|exact Kd.R_nil _ _ _ _ _|exact Kd.N_nil _ _ _ _ _|exact Kd.V_nil _ _ _ _ _|exact Kd.Q_nil _ _ _ _ _|exact Kd.S_nil _ _ _ _ _,zH1 HB.1 GE367.1⟩
def spec_BestPoints.f (k:Nat) (a0_0:Int) (a0_1:Int) (a0_2:Int) (a0_3:Int) (a1:Int) (a2:Int):Option (List Int×Int):=(spec_l05Player.f k a0_0 a0_1 a0_2 a0_3 a1 a2).bind fun t401=>(if t401=0 then ((spec_l05Table.f k a0_0 a0_1 a0_2 a0_3).bind fun t402=>((spec_l05Best.f k a0_0 a0_1 a0_2 a0_3 a1 a2 t402).bind fun bt405=>(some (bt405.1,0)))) else (some (([]:List Int),t401)))
def spec_BestPoints.T4:Bool×List (List Nat×List Nat):=(true,[([],[]),([],[]),([],[]),([],[]),([3],[3]),([0,1,2,4,4],[0,1,2,4]),([5,5,0,1,2,3,4,5],[5]),([6,0,1,2,3,4,5,6],[])])
def spec_BestPoints.B4:List Nat:=[0,0,0,0,8,31,63,127]
theorem spec_BestPoints.tab4:rtab .any (opsOf Tryz.f9 4)=spec_BestPoints.T4:=by kernel_rfl
theorem spec_BestPoints.bits4:waitsOk spec_BestPoints.T4.2 spec_BestPoints.B4=true:=by kernel_rfl
theorem spec_BestPoints.calls (k:Nat) (a0_0:Int) (a0_1:Int) (a0_2:Int) (a0_3:Int) (a1:Int) (a2:Int) (r1:List Int) (r2:Int) (w:World) (h:spec_BestPoints.f k a0_0 a0_1 a0_2 a0_3 a1 a2=some (r1,r2)):
 Calls Tryz.prog 9 #[.agg #[.int .i64 a0_0,.int .i64 a0_1,.int .i64 a0_2,.int .i64 a0_3],.int .i64 a1,.int .i64 a2] w fun e w'=>∃ v0_:Value,e=.returned (.tuple #[v0_,.int .i64 r2])∧Kd.R (Kd.int .i64) 2 w' w.heap.size (fun _=>True) v0_ r1∧Below w.heap.size w w':=by
 have hu25:=Tryz.underlying25
 have HB:=Aside0.mk (Below.refl w.heap.size w)
 have H:((spec_l05Player.f k a0_0 a0_1 a0_2 a0_3 a1 a2).bind fun t401=>(if t401=0 then ((spec_l05Table.f k a0_0 a0_1 a0_2 a0_3).bind fun t402=>((spec_l05Best.f k a0_0 a0_1 a0_2 a0_3 a1 a2 t402).bind fun bt405=>(some (bt405.1,0)))) else (some (([]:List Int),t401))))=some (r1,r2):=h
 clear h
 obtain ⟨t401,A4,H⟩:=zb H
 by_cases c5:t401=0
 ·rw [if_pos c5] at H
  have c5b0:=zq1 c5
  have c5b1:=zq2 c5
  clear c5
  obtain ⟨t402,A6,H⟩:=zb H
  obtain ⟨⟨t405,t408⟩,A7,H⟩:=zb H;(try dsimp only at H)
  simp only [Option.some.injEq,Prod.mk.injEq] at H
  obtain ⟨rfl,rfl⟩:=H
  go_enter Tryz.func9,Tryz.ntmps9
  try go_wp2_with (first|((with_reducible refine gate_dst (N:=3) rfl ?_);refine zX 3 #[.int .i64 a0_0,.int .i64 a0_1,.int .i64 a0_2,.int .i64 a0_3] 25 ?_;intro gb400 hg w8 hbox hb;refine zA4 (below_step (zH HB.1) hb) (hbox) (zs hg HB:w.heap.size≤gb400) (zs hg HB:w.heap.size≤gb400) ?_;clear HB;intro HB BK400 GW400 GE400;clear hb hbox hg;obtain ⟨Z9_0,Z9_1,Z9_2,Z9_3⟩:=zc4 BK400;obtain ⟨V9_0,V9_1,V9_2,V9_3⟩:=zf4 BK400)|((with_reducible refine gate_callee (f:=32) rfl ?_);refine zL (some 12) Tryz.func32 #[.agg #[.int .i64 a0_0,.int .i64 a0_1,.int .i64 a0_2,.int .i64 a0_3],.int .i64 a1,.int .i64 a2] ?_;(with_reducible refine (spec_l05Player.calls k a0_0 a0_1 a0_2 a0_3 a1 a2 t401 _ A4.1).mono ?_);rintro e w10 ⟨rfl,hb⟩;refine ⟨_,rfl,?_⟩;refine zA2 (zY BK400.1 hb) (below_step (zH1 HB.1 GE400.1) hb) ?_;clear BK400 HB;intro BK400 HB;(try clear hb)))
  refine zA2 (blk_drew BK400.1) (below_drew1 HB.1) ?_
  clear BK400 HB
  intro BK400 HB
  refine start_ (n:=8) (S:=fun w'=>w'.cell? ⟨gb400,0,none⟩=some (.int .i64 a0_0)∧w'.cell? ⟨gb400,1,none⟩=some (.int .i64 a0_1)∧w'.cell? ⟨gb400,2,none⟩=some (.int .i64 a0_2)∧w'.cell? ⟨gb400,3,none⟩=some (.int .i64 a0_3)) (ds:=[]) #[false,false,false,false,false,false,false,false] (by kernel_rfl) rfl rfl ⟨zx BK400 0,zx BK400 1,zx BK400 2,zx BK400 3⟩ (fun hHeld=>?_);refine with_tabW spec_BestPoints.tab4 spec_BestPoints.bits4 (fun HT_ HW_=>?_)
  generalize w10.drew=w11 at BK400 HB hHeld ⊢
  refine zP HT_ 1 (some 17) rfl rfl ?_
  refine zP HT_ 2 (some 18) rfl rfl ?_
  refine zT HT_ HW_ hHeld 0 (some 16) rfl rfl ?_
  refine zT HT_ HW_ hHeld 3 (some 19) rfl rfl ?_
  refine one_ (i:=4) (N:=some 20) #[true,true,true,true,true,false,false,false] rfl rfl (one_of HT_.1 (by kernel_rfl)) (by decide) (fun K hK=>?_)
  refine goes_ Tryz.func33 (by kernel_rfl) rfl #[.agg #[.int .i64 a0_0,.int .i64 a0_1,.int .i64 a0_2,.int .i64 a0_3]] (by rfl) rfl rfl zM ?_
  with_reducible refine (spec_l05Table.calls k a0_0 a0_1 a0_2 a0_3 t402 _ A6.1).mono ?_
  rintro e w12 ⟨v403,rfl,ho0,hb⟩
  refine ⟨_,rfl,?_⟩
  refine zA3 (Kd.R_lower ho0 (below_size (zH1 HB.1 GE400.1))) (zY BK400.1 hb) (below_step (zH1 HB.1 GE400.1) hb) ?_
  clear BK400 HB
  intro HO404 BK400 HB
  (try clear hb)
  (try clear hb2)
  (try clear hk)
  (try clear hi)
  (try clear ho0)
  obtain ⟨Ao13,co13,eo13⟩:=Kd.R_slice HO404.1
  (first|subst eo13|(injection eo13 with f1_ f2_ f3_;have f4_:=f1_.symm;have f5_:=f3_.symm;clear f1_ f2_ f3_;subst f4_;subst f5_))
  refine hK.out _ _ ⟨zx BK400 0,zx BK400 1,zx BK400 2,zx BK400 3⟩ (fun hHeld=>?_)
  clear hK K
  refine zW (some 20) ?_
  refine one_ (i:=5) (N:=some 21) #[true,true,true,true,true,true,false,false] rfl rfl (one_of HT_.1 (by kernel_rfl)) (by decide) (fun K hK=>?_)
  refine goes_ Tryz.func34 (by kernel_rfl) rfl #[.agg #[.int .i64 a0_0,.int .i64 a0_1,.int .i64 a0_2,.int .i64 a0_3],.int .i64 a1,.int .i64 a2,.slice Ao13 t402.length co13] (by rfl) rfl rfl zM ?_
  with_reducible refine (spec_l05Best.calls k a0_0 a0_1 a0_2 a0_3 a1 a2 (fun k_=>some k_=(.slice Ao13 t402.length co13:Value).ownBlock) (.slice Ao13 t402.length co13) t402 t405 t408 w _ ?side1 ?side2 A7.1).mono ?_
  (case side1=>exact zH1 HB.1 GE400.1)
  (case side2=>exact Kd.R_tight rfl HO404.1)
  rintro e w14 ⟨v406,rfl,ho0,hy0,hb,hkp⟩
  refine ⟨_,rfl,?_⟩
  refine zA4 (blk_kept (zB BK400.1) hkp (fun hs_=>(fun e_=>(Kd.R_ne HO404.1 BK400.1 (by decide)) e_) hs_)) (Kd.R_reok rfl hy0 (fun k_ e_=>HO404.1.1 k_ e_)) (Kd.R_mono (ok':=fun k_=>True) ho0 (fun k_ hk_=>trivial)) (hb) ?_
  clear BK400 HO404 HB
  intro BK400 HO404 HO407 HB
  (try clear hb)
  (try clear hkp)
  (try clear ho0)
  (try clear hy0)
  refine hK.out _ _ ⟨zx BK400 0,zx BK400 1,zx BK400 2,zx BK400 3⟩ (fun hHeld=>?_)
  clear hK K
  refine zW (some 21) ?_
  refine zP HT_ 6 (some 6) rfl rfl ?_
  refine zP HT_ 7 (some 7) rfl rfl ?_
  refine done_ (done_of HT_.1 (by kernel_rfl)) ?_
  try go_wp2
  go_ret2
  exact ⟨_,zE,by (with_reducible repeat (first|apply Kd.R_alloc|apply Kd.R_drewN|apply Kd.R_drew));exact HO407.1,zH1 HB.1 GE400.1⟩
 ·rw [if_neg c5] at H
  have c5b0:=zq3 c5
  have c5b1:=zq4 c5
  simp only [Option.some.injEq,Prod.mk.injEq] at H
  obtain ⟨rfl,rfl⟩:=H
  go_enter Tryz.func9,Tryz.ntmps9
  go_wp2_with (first|((with_reducible refine gate_dst (N:=3) rfl ?_);refine zX 3 #[.int .i64 a0_0,.int .i64 a0_1,.int .i64 a0_2,.int .i64 a0_3] 25 ?_;intro gb400 hg w15 hbox hb;refine zA4 (below_step (zH HB.1) hb) (hbox) (zs hg HB:w.heap.size≤gb400) (zs hg HB:w.heap.size≤gb400) ?_;clear HB;intro HB BK400 GW400 GE400;clear hb hbox hg;obtain ⟨Z16_0,Z16_1,Z16_2,Z16_3⟩:=zc4 BK400;obtain ⟨V16_0,V16_1,V16_2,V16_3⟩:=zf4 BK400)|((with_reducible refine gate_callee (f:=32) rfl ?_);refine zL (some 12) Tryz.func32 #[.agg #[.int .i64 a0_0,.int .i64 a0_1,.int .i64 a0_2,.int .i64 a0_3],.int .i64 a1,.int .i64 a2] ?_;(with_reducible refine (spec_l05Player.calls k a0_0 a0_1 a0_2 a0_3 a1 a2 t401 _ A4.1).mono ?_);rintro e w17 ⟨rfl,hb⟩;refine ⟨_,rfl,?_⟩;refine zA2 (zY BK400.1 hb) (below_step (zH1 HB.1 GE400.1) hb) ?_;clear BK400 HB;intro BK400 HB;(try clear hb)))
  go_ret2
  exact ⟨_,zE,by first|exact Kd.R_nil _ _ _ _ _|exact Kd.N_nil _ _ _ _ _|exact Kd.V_nil _ _ _ _ _|exact Kd.Q_nil _ _ _ _ _|exact Kd.S_nil _ _ _ _ _,zH1 HB.1 GE400.1⟩
def laws_likeInts.l0:Nat→List Int→List Int→Int→Option (Bool)
 |0,_,_,_=>none
 |k+1,x0,x1,x5=>if x5<(x0.length:Int) then (if 0≤x5 then (if x5<(x1.length:Int) then (if (rd x0 x5)=(rd x1 x5) then (laws_likeInts.l0 k x0 x1 (wrap64 (x5+1))) else (some false)) else (none)) else (none)) else (some true)
def laws_likeInts.f (k:Nat) (l0:List Int) (l1:List Int):Option (Bool):=if (l0.length:Int)=(l1.length:Int) then (laws_likeInts.l0 k l0 l1 0) else (some false)
theorem laws_likeInts.calls (k:Nat) (A0:Option Addr) (c0:Nat) (l0:List Int) (A1:Option Addr) (c1:Nat) (l1:List Int) (r:Bool) (w:World) (hr0:Kd.C (Kd.int .i64) w A0 l0.length l0) (hc0:l0.length≤c0) (hr1:Kd.C (Kd.int .i64) w A1 l1.length l1) (hc1:l1.length≤c1) (h:laws_likeInts.f k l0 l1=some r):
 Calls Tryz.prog 10 #[.slice A0 l0.length c0,.slice A1 l1.length c1] w fun e w'=>e=.returned (.bool r)∧Drawn0 w w':=by
 have HR0:=Aside0.mk hr0
 have HC0:=Aside0.mk hc0
 clear hr0 hc0
 have HR1:=Aside0.mk hr1
 have HC1:=Aside0.mk hc1
 clear hr1 hc1
 have H:(if (l0.length:Int)=(l1.length:Int) then (laws_likeInts.l0 k l0 l1 0) else (some false))=some r:=h
 clear h
 by_cases c3:(l0.length:Int)=(l1.length:Int)
 ·rw [if_pos c3] at H
  have c3b0:=zq1 c3
  have c3b1:=zq2 c3
  have c3b2:(l0.length==l1.length)=true:=by first|simpa using c3|(simp at c3 ⊢;omega)
  clear c3
  have H':=Aside0.mk H
  clear H
  go_enter Tryz.func10,Tryz.ntmps10
  go_wp2
  repeat (go_quiet (fail);try go_wp2)
  go_loopg [5] k (fun kq v5 w'=>∃ (x5_1:Int),v5=.int .i64 x5_1∧Aside0 (laws_likeInts.l0 kq l0 l1 x5_1=some r)∧Aside0 (kq≤k)∧Drawn0 w w')
  case atStart=>exact ⟨(0),(zF),H',⟨Nat.le_refl _⟩,zD⟩
  case round=>
   clear H'
   try clear c1
   try clear p2
   try clear c3
   try clear c3b0
   try clear c3b1
   try clear c3b2
   obtain ⟨x5_1,rfl,HA,HK1,⟨m1,rfl⟩⟩:=hrel
   cases gk with
   |zero=>exact absurd HA.1 (by simp [laws_likeInts.l0])
   |succ k1=>
    have H:=HA.1
    clear HA
    simp only [laws_likeInts.l0] at H
    by_cases c4:x5_1<(l0.length:Int)
    ·rw [if_pos c4] at H
     have c4b0:=decide_eq_true c4
     clear c4
     by_cases c5:0≤x5_1
     ·rw [if_pos c5] at H
      have c5b0:=decide_eq_true c5
      clear c5
      by_cases c6:x5_1<(l1.length:Int)
      ·rw [if_pos c6] at H
       have c6b0:=decide_eq_true c6
       clear c6
       by_cases c7:(rd l0 x5_1)=(rd l1 x5_1)
       ·rw [if_pos c7] at H
        have c7b0:=zq1 c7
        have c7b1:=zq2 c7
        clear c7
        have H':=Aside0.mk H
        clear H
        have p409:0≤(x5_1:Int):=zo
        have q409:x5_1<(l0.length:Int):=zo
        obtain ⟨ad409,e409,hx409_0⟩:=Kd.at_int HR0.1 x5_1 p409 q409
        cases e409
        replace p409:=eq_true p409
        replace q409:=eq_true q409
        have p410:0≤(x5_1:Int):=zo
        have q410:x5_1<(l1.length:Int):=zo
        obtain ⟨ad410,e410,hx410_0⟩:=Kd.at_int HR1.1 x5_1 p410 q410
        cases e410
        replace p410:=eq_true p410
        replace q410:=eq_true q410
        go_wp2
        repeat (go_quiet (fail);try go_wp2)
        go_roundg k1
        case measure=>have:=HK1.1;omega
        case rel=>exact ⟨(wrap64 (x5_1+1)),(zF),H',⟨by have:=HK1.1;omega⟩,zD⟩
       ·rw [if_neg c7] at H
        have c7b0:=zq3 c7
        have c7b1:=zq4 c7
        obtain rfl:=Option.some.inj H
        have p409:0≤(x5_1:Int):=zo
        have q409:x5_1<(l0.length:Int):=zo
        obtain ⟨ad409,e409,hx409_0⟩:=Kd.at_int HR0.1 x5_1 p409 q409
        cases e409
        replace p409:=eq_true p409
        replace q409:=eq_true q409
        have p410:0≤(x5_1:Int):=zo
        have q410:x5_1<(l1.length:Int):=zo
        obtain ⟨ad410,e410,hx410_0⟩:=Kd.at_int HR1.1 x5_1 p410 q410
        cases e410
        replace p410:=eq_true p410
        replace q410:=eq_true q410
        go_wp2
        repeat (go_quiet (fail);try go_wp2)
        go_ret
        exact ⟨zF,zD⟩
      ·rw [if_neg c6] at H
       exact absurd H (by simp)
     ·rw [if_neg c5] at H
      exact absurd H (by simp)
    ·rw [if_neg c4] at H
     have c4b0:=decide_eq_false c4
     clear c4
     obtain rfl:=Option.some.inj H
     go_wp2
     repeat (go_quiet (fail);try go_wp2)
     go_ret
     exact ⟨zF,zD⟩
 ·rw [if_neg c3] at H
  have c3b0:=zq3 c3
  have c3b1:=zq4 c3
  have c3b2:(l0.length==l1.length)=false:=by first|simpa using c3|(simp at c3 ⊢;omega)
  obtain rfl:=Option.some.inj H
  go_enter Tryz.func10,Tryz.ntmps10
  go_wp2
  repeat (go_quiet (fail);try go_wp2)
  go_ret
  exact ⟨zF,zD⟩
def impl_ExchangeSides.f (a0_0:Int) (a0_1:Int) (a0_2:Int) (a0_3:Int):Option (Int×Int×Int×Int×Int):=(impl_IsField.f a0_0 a0_1 a0_2 a0_3).bind fun t413=>(if t413=true then (some (a0_0,a0_1,a0_3,a0_2,0)) else (some (0,0,0,0,1)))
theorem impl_ExchangeSides.calls (a0_0:Int) (a0_1:Int) (a0_2:Int) (a0_3:Int) (r1:Int) (r2:Int) (r3:Int) (r4:Int) (r5:Int) (w:World) (h:impl_ExchangeSides.f a0_0 a0_1 a0_2 a0_3=some (r1,r2,r3,r4,r5)):
 Calls Tryz.prog 12 #[.agg #[.int .i64 a0_0,.int .i64 a0_1,.int .i64 a0_2,.int .i64 a0_3]] w fun e w'=>e=.returned (.tuple #[.agg #[.int .i64 r1,.int .i64 r2,.int .i64 r3,.int .i64 r4],.int .i64 r5])∧Below w.heap.size w w':=by
 have hu25:=Tryz.underlying25
 have HB:=Aside0.mk (Below.refl w.heap.size w)
 have H:((impl_IsField.f a0_0 a0_1 a0_2 a0_3).bind fun t413=>(if t413=true then (some (a0_0,a0_1,a0_3,a0_2,0)) else (some (0,0,0,0,1))))=some (r1,r2,r3,r4,r5):=h
 clear h
 obtain ⟨t413,A2,H⟩:=zb H
 by_cases c3:t413=true
 ·subst c3
  have H1:(some (a0_0,a0_1,a0_3,a0_2,0))=some (r1,r2,r3,r4,r5):=by rw [if_pos rfl] at H;exact H
  clear H
  have H:=H1
  clear H1
  simp only [Option.some.injEq,Prod.mk.injEq] at H
  obtain ⟨rfl,rfl,rfl,rfl,rfl⟩:=H
  go_enter Tryz.func12,Tryz.ntmps12
  go_wp2_with (first|((with_reducible refine gate_dst (N:=1) rfl ?_);refine zX 1 #[.int .i64 a0_0,.int .i64 a0_1,.int .i64 a0_2,.int .i64 a0_3] 25 ?_;intro gb411 hg w4 hbox hb;refine zA4 (below_step (zH HB.1) hb) (hbox) (zs hg HB:w.heap.size≤gb411) (zs hg HB:w.heap.size≤gb411) ?_;clear HB;intro HB BK411 GW411 GE411;clear hb hbox hg)|((with_reducible refine gate_dst (N:=2) rfl ?_);refine zX 2 #[.int .i64 0,.int .i64 0,.int .i64 0,.int .i64 0] 25 ?_;intro gb412 hg w5 hbox hb;refine zA7 (zY BK411.1 hb) (below_step (zH1 HB.1 GE411.1) hb) (hbox) ((zS hg (below_size (zH1 HB.1 GE411.1)):w.heap.size≤gb412)) ((zS hg (below_size (zH1 HB.1 GE411.1)):w.heap.size≤gb412)) ((zl hg (blk_lt (g:=gb411) (o:=.cells #[.int .i64 a0_0,.int .i64 a0_1,.int .i64 a0_2,.int .i64 a0_3] 25 (0,0)) (zB BK411.1)):gb411≠gb412)) ((zg hg (blk_lt (g:=gb411) (o:=.cells #[.int .i64 a0_0,.int .i64 a0_1,.int .i64 a0_2,.int .i64 a0_3] 25 (0,0)) (zB BK411.1)):gb412≠gb411)) ?_;clear BK411 HB;intro BK411 HB BK412 GW412 GE412 NB411_412 NB412_411;clear hb hbox hg;have hnb6:=NB411_412.1;have hnc6:=NB412_411.1;obtain ⟨Z7_0,Z7_1,Z7_2,Z7_3⟩:=zc4 BK411;obtain ⟨V7_0,V7_1,V7_2,V7_3⟩:=zf4 BK411)|((with_reducible refine gate_callee (f:=37) rfl ?_);refine zL (some 5) Tryz.func37 #[.agg #[.int .i64 a0_0,.int .i64 a0_1,.int .i64 a0_2,.int .i64 a0_3]] ?_;(with_reducible refine (impl_IsField.calls a0_0 a0_1 a0_2 a0_3 true _ A2.1).mono ?_);rintro e w8 ⟨rfl,hb⟩;refine ⟨_,rfl,?_⟩;refine zA3 (zY BK411.1 hb) (zY BK412.1 hb) (below_step (zH2 HB.1 GE411.1 GE412.1) hb) ?_;clear BK411 BK412 HB;intro BK411 BK412 HB;(try clear hb);obtain ⟨Z9_0,Z9_1,Z9_2,Z9_3⟩:=zc4 BK411;obtain ⟨V9_0,V9_1,V9_2,V9_3⟩:=zf4 BK411;obtain ⟨Z10_0,Z10_1,Z10_2,Z10_3⟩:=zc4 BK412;obtain ⟨V10_0,V10_1,V10_2,V10_3⟩:=zf4 BK412))
  refine bodyPost_ret (results_ct rfl _ _ gb412 25 #[.int .i64 a0_0,.int .i64 a0_1,.int .i64 a0_3,.int .i64 a0_2] (0,0) _ rfl (zQ BK412.1) Tryz.underlying25 rfl (by kernel_rfl)) rfl ?_
  exact ⟨zE,zH2 HB.1 GE411.1 GE412.1⟩
 ·replace c3:=Bool.eq_false_iff.mpr c3
  subst c3
  have H1:(some (0,0,0,0,1))=some (r1,r2,r3,r4,r5):=by rw [if_neg (show ¬ (false=true) by decide)] at H;exact H
  clear H
  have H:=H1
  clear H1
  simp only [Option.some.injEq,Prod.mk.injEq] at H
  obtain ⟨rfl,rfl,rfl,rfl,rfl⟩:=H
  go_enter Tryz.func12,Tryz.ntmps12
  go_wp2_with (first|((with_reducible refine gate_dst (N:=1) rfl ?_);refine zX 1 #[.int .i64 a0_0,.int .i64 a0_1,.int .i64 a0_2,.int .i64 a0_3] 25 ?_;intro gb411 hg w11 hbox hb;refine zA4 (below_step (zH HB.1) hb) (hbox) (zs hg HB:w.heap.size≤gb411) (zs hg HB:w.heap.size≤gb411) ?_;clear HB;intro HB BK411 GW411 GE411;clear hb hbox hg)|((with_reducible refine gate_dst (N:=2) rfl ?_);refine zX 2 #[.int .i64 0,.int .i64 0,.int .i64 0,.int .i64 0] 25 ?_;intro gb412 hg w12 hbox hb;refine zA7 (zY BK411.1 hb) (below_step (zH1 HB.1 GE411.1) hb) (hbox) ((zS hg (below_size (zH1 HB.1 GE411.1)):w.heap.size≤gb412)) ((zS hg (below_size (zH1 HB.1 GE411.1)):w.heap.size≤gb412)) ((zl hg (blk_lt (g:=gb411) (o:=.cells #[.int .i64 a0_0,.int .i64 a0_1,.int .i64 a0_2,.int .i64 a0_3] 25 (0,0)) (zB BK411.1)):gb411≠gb412)) ((zg hg (blk_lt (g:=gb411) (o:=.cells #[.int .i64 a0_0,.int .i64 a0_1,.int .i64 a0_2,.int .i64 a0_3] 25 (0,0)) (zB BK411.1)):gb412≠gb411)) ?_;clear BK411 HB;intro BK411 HB BK412 GW412 GE412 NB411_412 NB412_411;clear hb hbox hg;have hnb13:=NB411_412.1;have hnc13:=NB412_411.1;obtain ⟨Z14_0,Z14_1,Z14_2,Z14_3⟩:=zc4 BK411;obtain ⟨V14_0,V14_1,V14_2,V14_3⟩:=zf4 BK411)|((with_reducible refine gate_callee (f:=37) rfl ?_);refine zL (some 5) Tryz.func37 #[.agg #[.int .i64 a0_0,.int .i64 a0_1,.int .i64 a0_2,.int .i64 a0_3]] ?_;(with_reducible refine (impl_IsField.calls a0_0 a0_1 a0_2 a0_3 false _ A2.1).mono ?_);rintro e w15 ⟨rfl,hb⟩;refine ⟨_,rfl,?_⟩;refine zA3 (zY BK411.1 hb) (zY BK412.1 hb) (below_step (zH2 HB.1 GE411.1 GE412.1) hb) ?_;clear BK411 BK412 HB;intro BK411 BK412 HB;(try clear hb);obtain ⟨Z16_0,Z16_1,Z16_2,Z16_3⟩:=zc4 BK412;obtain ⟨V16_0,V16_1,V16_2,V16_3⟩:=zf4 BK412))
  refine bodyPost_ret (results_ct rfl _ _ gb412 25 #[.int .i64 0,.int .i64 0,.int .i64 0,.int .i64 0] (0,0) _ rfl (zQ BK412.1) Tryz.underlying25 rfl (by kernel_rfl)) rfl ?_
  exact ⟨zE,zH2 HB.1 GE411.1 GE412.1⟩
def slices_Index_int64_int64.l0:Nat→List Int→Int→Int→Int→Option (Int)
 |0,_,_,_,_=>none
 |k+1,x0,x1,x7,x8=>if x8<x7 then (if 0≤x8 then (if x8<(x0.length:Int) then (if x1=(rd x0 x8) then (some x8) else (slices_Index_int64_int64.l0 k x0 x1 x7 (wrap64 (x8+1)))) else (none)) else (none)) else (some (-1))
def slices_Index_int64_int64.f (k:Nat) (l0:List Int) (a1:Int):Option (Int):=slices_Index_int64_int64.l0 k l0 a1 (l0.length:Int) 0
theorem slices_Index_int64_int64.calls (k:Nat) (A0:Option Addr) (c0:Nat) (l0:List Int) (a1:Int) (r:Int) (w:World) (hr0:Kd.C (Kd.int .i64) w A0 l0.length l0) (hc0:l0.length≤c0) (h:slices_Index_int64_int64.f k l0 a1=some r):
 Calls Tryz.prog 78 #[.slice A0 l0.length c0,.int .i64 a1] w fun e w'=>e=.returned (.int .i64 r)∧Drawn0 w w':=by
 have HR0:=Aside0.mk hr0
 have HC0:=Aside0.mk hc0
 clear hr0 hc0
 have H:(slices_Index_int64_int64.l0 k l0 a1 (l0.length:Int) 0)=some r:=h
 clear h
 have H':=Aside0.mk H
 clear H
 go_enter Tryz.func78,Tryz.ntmps78
 go_wp2
 go_loopg [8] k (fun kq v8 w'=>∃ (x8_1:Int),v8=.int .i64 x8_1∧Aside0 (slices_Index_int64_int64.l0 kq l0 a1 (l0.length:Int) x8_1=some r)∧Aside0 (kq≤k)∧Drawn0 w w')
 case atStart=>exact ⟨(0),(zF),H',⟨Nat.le_refl _⟩,zD⟩
 case round=>
  clear H'
  try clear p2
  obtain ⟨x8_1,rfl,HA,HK1,⟨m1,rfl⟩⟩:=hrel
  cases gk with
  |zero=>exact absurd HA.1 (by simp [slices_Index_int64_int64.l0])
  |succ k1=>
   have H:=HA.1
   clear HA
   simp only [slices_Index_int64_int64.l0] at H
   by_cases c3:x8_1<(l0.length:Int)
   ·rw [if_pos c3] at H
    have c3b0:=decide_eq_true c3
    clear c3
    by_cases c4:0≤x8_1
    ·rw [if_pos c4] at H
     have c4b0:=decide_eq_true c4
     clear c4
     by_cases c5:x8_1<(l0.length:Int)
     ·rw [if_pos c5] at H
      have c5b0:=decide_eq_true c5
      clear c5
      by_cases c6:a1=(rd l0 x8_1)
      ·rw [if_pos c6] at H
       have c6b0:=zq1 c6
       have c6b1:=zq2 c6
       clear c6
       obtain rfl:=Option.some.inj H
       have p414:0≤(x8_1:Int):=zo
       have q414:x8_1<(l0.length:Int):=zo
       obtain ⟨ad414,e414,hx414_0⟩:=Kd.at_int HR0.1 x8_1 p414 q414
       cases e414
       replace p414:=eq_true p414
       replace q414:=eq_true q414
       go_wp2
       go_ret
       exact ⟨zF,zD⟩
      ·rw [if_neg c6] at H
       have c6b0:=zq3 c6
       have c6b1:=zq4 c6
       have H':=Aside0.mk H
       clear H
       have p414:0≤(x8_1:Int):=zo
       have q414:x8_1<(l0.length:Int):=zo
       obtain ⟨ad414,e414,hx414_0⟩:=Kd.at_int HR0.1 x8_1 p414 q414
       cases e414
       replace p414:=eq_true p414
       replace q414:=eq_true q414
       go_wp2
       go_roundg k1
       case measure=>have:=HK1.1;omega
       case rel=>exact ⟨(wrap64 (x8_1+1)),(zF),H',⟨by have:=HK1.1;omega⟩,zD⟩
     ·rw [if_neg c5] at H
      exact absurd H (by simp)
    ·rw [if_neg c4] at H
     exact absurd H (by simp)
   ·rw [if_neg c3] at H
    have c3b0:=decide_eq_false c3
    clear c3
    obtain rfl:=Option.some.inj H
    go_wp2
    go_ret
    exact ⟨zF,zD⟩
def slices_Contains_int64_int64.f (k:Nat) (l0:List Int) (a1:Int):Option (Bool):=(slices_Index_int64_int64.f k l0 a1).bind fun t415=>(some (decide (t415≥0)))
theorem slices_Contains_int64_int64.calls (k:Nat) (A0:Option Addr) (c0:Nat) (l0:List Int) (a1:Int) (r:Bool) (w:World) (hr0:Kd.C (Kd.int .i64) w A0 l0.length l0) (hc0:l0.length≤c0) (h:slices_Contains_int64_int64.f k l0 a1=some r):
 Calls Tryz.prog 40 #[.slice A0 l0.length c0,.int .i64 a1] w fun e w'=>e=.returned (.bool r)∧Drawn0 w w':=by
 have HR0:=Aside0.mk hr0
 have HC0:=Aside0.mk hc0
 clear hr0 hc0
 have H:((slices_Index_int64_int64.f k l0 a1).bind fun t415=>(some (decide (t415≥0))))=some r:=h
 clear h
 obtain ⟨t415,A3,H⟩:=zb H
 obtain rfl:=Option.some.inj H
 go_enter Tryz.func40,Tryz.ntmps40
 go_wp2_with (first|((with_reducible refine gate_callee (f:=78) rfl ?_);refine zL (some 7) Tryz.func78 #[.slice A0 l0.length c0,.int .i64 a1] ?_;(with_reducible refine (slices_Index_int64_int64.calls k _ _ l0 a1 t415 _ ?side1 ?side2 A3.1).mono ?_);(case side1=>repeat (first|exact HR0.1|(with_reducible refine Kd.C_alloc ?_ _)|(with_reducible refine Kd.C_drewN ?_ _)|(with_reducible refine Kd.C_drew ?_)));(case side2=>exact HC0.1);rintro e w' ⟨rfl,⟨nd,rfl⟩⟩;refine ⟨_,rfl,?_⟩))
 go_ret
 exact ⟨zF,zD⟩
def spec_DrawFindKept.f (k:Nat) (l0:List Int):Option (Int×Int×Int×Int):=(spec_l01From.f k l0).bind fun bt439=>((spec_l01Next.f bt439.1 bt439.2.1 bt439.2.2 3).bind fun bt443=>(if bt443.1=0 then ((spec_l05Given.f k l0).bind fun bt446=>(some (bt446.1,bt446.2.1,bt446.2.2.1,bt446.2.2.2.1))) else ((spec_l01Next.f bt439.1 bt443.2.1 bt443.2.2 2).bind fun bt453=>((spec_l05Twice.f k bt439.1 bt453.2.1 bt453.2.2 bt453.1).bind fun bt456=>((spec_l05Bad.f bt439.1 bt456.2.2.2.2.1 bt456.2.2.2.2.2 bt456.1 bt456.2.1 bt456.2.2.1 bt456.2.2.2.1).bind fun bt462=>(some (bt462.1,bt462.2.1,bt462.2.2.1,bt462.2.2.2.1)))))))
theorem spec_DrawFindKept.calls (k:Nat) (A0:Option Addr) (c0:Nat) (l0:List Int) (r1:Int) (r2:Int) (r3:Int) (r4:Int) (w:World) (hr0:Kd.C (Kd.int .u8) w A0 l0.length l0) (hc0:l0.length≤c0) (h:spec_DrawFindKept.f k l0=some (r1,r2,r3,r4)):
 Calls Tryz.prog 15 #[.slice A0 l0.length c0] w fun e w'=>e=.returned (.agg #[.int .i64 r1,.int .i64 r2,.int .i64 r3,.int .i64 r4])∧Below w.heap.size w w':=by
 have hu25:=Tryz.underlying25
 have HR0:=Aside0.mk hr0
 have HC0:=Aside0.mk hc0
 clear hr0 hc0
 have HB:=Aside0.mk (Below.refl w.heap.size w)
 have H:((spec_l01From.f k l0).bind fun bt439=>((spec_l01Next.f bt439.1 bt439.2.1 bt439.2.2 3).bind fun bt443=>(if bt443.1=0 then ((spec_l05Given.f k l0).bind fun bt446=>(some (bt446.1,bt446.2.1,bt446.2.2.1,bt446.2.2.2.1))) else ((spec_l01Next.f bt439.1 bt443.2.1 bt443.2.2 2).bind fun bt453=>((spec_l05Twice.f k bt439.1 bt453.2.1 bt453.2.2 bt453.1).bind fun bt456=>((spec_l05Bad.f bt439.1 bt456.2.2.2.2.1 bt456.2.2.2.2.2 bt456.1 bt456.2.1 bt456.2.2.1 bt456.2.2.2.1).bind fun bt462=>(some (bt462.1,bt462.2.1,bt462.2.2.1,bt462.2.2.2.1))))))))=some (r1,r2,r3,r4):=h
 clear h
 obtain ⟨⟨t439,t440,t441⟩,A2,H⟩:=zb H;(try dsimp only at H)
 obtain ⟨⟨t443,t444,t445⟩,A3,H⟩:=zb H;(try dsimp only at H)
 by_cases c4:t443=0
 ·rw [if_pos c4] at H
  have c4b0:=zq1 c4
  have c4b1:=zq2 c4
  clear c4
  obtain ⟨⟨t446,t447,t448,t449,t450,t451⟩,A5,H⟩:=zb H;(try dsimp only at H)
  simp only [Option.some.injEq,Prod.mk.injEq] at H
  obtain ⟨rfl,rfl,rfl,rfl⟩:=H
  go_enter Tryz.func15,Tryz.ntmps15
  go_wp2_with (first|((with_reducible refine gate_dst (N:=2) rfl ?_);refine zX 2 #[.int .i64 0,.int .i64 0,.int .i64 0,.int .i64 0] 25 ?_;intro gb438 hg w6 hbox hb;refine zA4 (below_step (zH HB.1) hb) (hbox) (zs hg HB:w.heap.size≤gb438) (zs hg HB:w.heap.size≤gb438) ?_;clear HB;intro HB BK438 GW438 GE438;clear hb hbox hg)|((with_reducible refine gate_callee (f:=41) rfl ?_);refine zL (some 8) Tryz.func41 #[.slice A0 l0.length c0] ?_;(with_reducible refine (spec_l01From.calls k _ _ l0 t439 t440 t441 w _ ?side1 ?side2 ?side3 A2.1).mono ?_);(case side1=>exact zH1 HB.1 GE438.1);(case side2=>exact HR0.1);(case side3=>exact HC0.1);rintro e w7 ⟨g442,rfl,hi,hb,hb2⟩;refine ⟨_,rfl,?_⟩;refine zA5 (zY BK438.1 hb2) (hb) (hi) (IsS115.ne_blk hi (zY BK438.1 hb2) (by decide)) (Ne.symm (IsS115.ne_blk hi (zY BK438.1 hb2) (by decide))) ?_;clear BK438 HB;intro BK438 HB HI442 NB442_438 NB438_442;(try clear hb);(try clear hb2);(try clear hk);(try clear hi))|((with_reducible refine gate_callee (f:=42) rfl ?_);refine zL (some 10) Tryz.func42 #[.pointer (some ⟨g442,0,none⟩),.int .i64 3] ?_;(with_reducible refine (spec_l01Next.calls g442 t439 t440 t441 3 t443 t444 t445 w _ ?side1 ?side2 A3.1).mono ?_);(case side1=>exact zI1 HI442.1 NB442_438.1);(case side2=>exact zH2 HB.1 (IsS115.ge HI442.1) GE438.1);rintro e w8 ⟨rfl,hi,hb,hk⟩;refine ⟨_,rfl,?_⟩;refine zA3 (zYk hk BK438.1 NB438_442.1) (hb) (hi) ?_;clear BK438 HB HI442;intro BK438 HB HI442;(try clear hb);(try clear hb2);(try clear hk);(try clear hi))|((with_reducible refine gate_callee (f:=26) rfl ?_);refine zL (some 14) Tryz.func26 #[.slice A0 l0.length c0] ?_;(with_reducible refine (spec_l05Given.calls k _ _ l0 t446 t447 t448 t449 t450 t451 _ ?side1 ?side2 A5.1).mono ?_);(case side1=>repeat (first|exact (Kd.C_below HR0.1 HB.1)|(with_reducible refine Kd.C_alloc ?_ _)|(with_reducible refine Kd.C_drewN ?_ _)|(with_reducible refine Kd.C_drew ?_)));(case side2=>exact HC0.1);rintro e w9 ⟨rfl,hb⟩;refine ⟨_,rfl,?_⟩;refine zA3 (zY BK438.1 hb) (IsS115.below (zI1 HI442.1 NB442_438.1) hb) (below_step (zH2 HB.1 (IsS115.ge HI442.1) GE438.1) hb) ?_;clear BK438 HI442 HB;intro BK438 HI442 HB;(try clear hb);(try clear hb2);(try clear hk);(try clear hi))|((with_reducible refine gate_dst (N:=4) rfl ?_);refine zX 4 #[.int .i64 0,.int .i64 0,.int .i64 0,.int .i64 0] 25 ?_;intro gb452 hg w10 hbox hb;refine zA10 (zY BK438.1 hb) (IsS115.below (zI1 HI442.1 NB442_438.1) hb) (below_step (zH2 HB.1 (IsS115.ge HI442.1) GE438.1) hb) (hbox) ((by rw [hg];exact (below_size (zH2 HB.1 (IsS115.ge HI442.1) GE438.1)):w.heap.size≤gb452)) ((by rw [hg];exact (below_size (zH2 HB.1 (IsS115.ge HI442.1) GE438.1)):w.heap.size≤gb452)) ((zl hg (blk_lt (g:=gb438) (o:=.cells #[.int .i64 0,.int .i64 0,.int .i64 0,.int .i64 0] 25 (0,0)) (zB BK438.1)):gb438≠gb452)) ((zg hg (blk_lt (g:=gb438) (o:=.cells #[.int .i64 0,.int .i64 0,.int .i64 0,.int .i64 0] 25 (0,0)) (zB BK438.1)):gb452≠gb438)) ((zl hg (IsS115.lt (show IsS115 w _ g442 t439 t444 t445 from zI1 HI442.1 NB442_438.1)):g442≠gb452)) ((zg hg (IsS115.lt (show IsS115 w _ g442 t439 t444 t445 from zI1 HI442.1 NB442_438.1)):gb452≠g442)) ?_;clear BK438 HI442 HB;intro BK438 HI442 HB BK452 GW452 GE452 NB438_452 NB452_438 NB442_452 NB452_442;clear hb hbox hg;have hnb11:=NB452_438.1;have hnc11:=NB438_452.1;have hnb12:=NB452_442.1;have hnc12:=NB442_452.1;obtain ⟨Z13_0,Z13_1,Z13_2,Z13_3⟩:=zc4 BK452;obtain ⟨V13_0,V13_1,V13_2,V13_3⟩:=zf4 BK452;have hnb14:=NB438_442.1;have hnc14:=NB442_438.1;obtain ⟨Z15_0,Z15_1,Z15_2,Z15_3⟩:=zc4 BK438;obtain ⟨V15_0,V15_1,V15_2,V15_3⟩:=zf4 BK438))
  refine bodyPost_ret (results_cell_row rfl _ _ gb438 25 #[.int .i64 t446,.int .i64 t447,.int .i64 t448,.int .i64 t449] (0,0) _ rfl (zQ1 BK438.1 NB438_452.1) Tryz.underlying25 rfl (by kernel_rfl)) rfl ?_
  exact ⟨zE,zH3 HB.1 (IsS115.ge HI442.1) GE438.1 GE452.1⟩
 ·rw [if_neg c4] at H
  have c4b0:=zq3 c4
  have c4b1:=zq4 c4
  obtain ⟨⟨t453,t454,t455⟩,A16,H⟩:=zb H;(try dsimp only at H)
  obtain ⟨⟨t456,t457,t458,t459,t460,t461⟩,A17,H⟩:=zb H;(try dsimp only at H)
  obtain ⟨⟨t462,t463,t464,t465,t466,t467⟩,A18,H⟩:=zb H;(try dsimp only at H)
  simp only [Option.some.injEq,Prod.mk.injEq] at H
  obtain ⟨rfl,rfl,rfl,rfl⟩:=H
  go_enter Tryz.func15,Tryz.ntmps15
  go_wp2_with (first|((with_reducible refine gate_dst (N:=2) rfl ?_);refine zX 2 #[.int .i64 0,.int .i64 0,.int .i64 0,.int .i64 0] 25 ?_;intro gb438 hg w19 hbox hb;refine zA4 (below_step (zH HB.1) hb) (hbox) (zs hg HB:w.heap.size≤gb438) (zs hg HB:w.heap.size≤gb438) ?_;clear HB;intro HB BK438 GW438 GE438;clear hb hbox hg)|((with_reducible refine gate_callee (f:=41) rfl ?_);refine zL (some 8) Tryz.func41 #[.slice A0 l0.length c0] ?_;(with_reducible refine (spec_l01From.calls k _ _ l0 t439 t440 t441 w _ ?side1 ?side2 ?side3 A2.1).mono ?_);(case side1=>exact zH1 HB.1 GE438.1);(case side2=>exact HR0.1);(case side3=>exact HC0.1);rintro e w20 ⟨g442,rfl,hi,hb,hb2⟩;refine ⟨_,rfl,?_⟩;refine zA5 (zY BK438.1 hb2) (hb) (hi) (IsS115.ne_blk hi (zY BK438.1 hb2) (by decide)) (Ne.symm (IsS115.ne_blk hi (zY BK438.1 hb2) (by decide))) ?_;clear BK438 HB;intro BK438 HB HI442 NB442_438 NB438_442;(try clear hb);(try clear hb2);(try clear hk);(try clear hi))|((with_reducible refine gate_callee (f:=42) rfl ?_);refine zL (some 10) Tryz.func42 #[.pointer (some ⟨g442,0,none⟩),.int .i64 3] ?_;(with_reducible refine (spec_l01Next.calls g442 t439 t440 t441 3 t443 t444 t445 w _ ?side1 ?side2 A3.1).mono ?_);(case side1=>exact zI1 HI442.1 NB442_438.1);(case side2=>exact zH2 HB.1 (IsS115.ge HI442.1) GE438.1);rintro e w21 ⟨rfl,hi,hb,hk⟩;refine ⟨_,rfl,?_⟩;refine zA3 (zYk hk BK438.1 NB438_442.1) (hb) (hi) ?_;clear BK438 HB HI442;intro BK438 HB HI442;(try clear hb);(try clear hb2);(try clear hk);(try clear hi))|((with_reducible refine gate_callee (f:=42) rfl ?_);refine zL (some 22) Tryz.func42 #[.pointer (some ⟨g442,0,none⟩),.int .i64 2] ?_;(with_reducible refine (spec_l01Next.calls g442 t439 t444 t445 2 t453 t454 t455 w _ ?side1 ?side2 A16.1).mono ?_);(case side1=>exact zI1 HI442.1 NB442_438.1);(case side2=>exact zH2 HB.1 (IsS115.ge HI442.1) GE438.1);rintro e w22 ⟨rfl,hi,hb,hk⟩;refine ⟨_,rfl,?_⟩;refine zA3 (zYk hk BK438.1 NB438_442.1) (hb) (hi) ?_;clear BK438 HB HI442;intro BK438 HB HI442;(try clear hb);(try clear hb2);(try clear hk);(try clear hi))|((with_reducible refine gate_callee (f:=44) rfl ?_);refine zL (some 23) Tryz.func44 #[.pointer (some ⟨g442,0,none⟩),.int .i64 t453] ?_;(with_reducible refine (spec_l05Twice.calls k g442 t439 t454 t455 t453 t456 t457 t458 t459 t460 t461 w _ ?side1 ?side2 A17.1).mono ?_);(case side1=>exact zI1 HI442.1 NB442_438.1);(case side2=>exact zH2 HB.1 (IsS115.ge HI442.1) GE438.1);rintro e w23 ⟨rfl,hi,hb,hk⟩;refine ⟨_,rfl,?_⟩;refine zA3 (zYk hk BK438.1 NB438_442.1) (hb) (hi) ?_;clear BK438 HB HI442;intro BK438 HB HI442;(try clear hb);(try clear hb2);(try clear hk);(try clear hi))|((with_reducible refine gate_callee (f:=43) rfl ?_);refine zL (some 24) Tryz.func43 #[.pointer (some ⟨g442,0,none⟩),.agg #[.int .i64 t456,.int .i64 t457,.int .i64 t458,.int .i64 t459]] ?_;(with_reducible refine (spec_l05Bad.calls g442 t439 t460 t461 t456 t457 t458 t459 t462 t463 t464 t465 t466 t467 w _ ?side1 ?side2 A18.1).mono ?_);(case side1=>exact zI1 HI442.1 NB442_438.1);(case side2=>exact zH2 HB.1 (IsS115.ge HI442.1) GE438.1);rintro e w24 ⟨rfl,hi,hb,hk⟩;refine ⟨_,rfl,?_⟩;refine zA3 (zYk hk BK438.1 NB438_442.1) (hb) (hi) ?_;clear BK438 HB HI442;intro BK438 HB HI442;(try clear hb);(try clear hb2);(try clear hk);(try clear hi);have hnb25:=NB438_442.1;have hnc25:=NB442_438.1;obtain ⟨Z26_0,Z26_1,Z26_2,Z26_3⟩:=zc4 BK438;obtain ⟨V26_0,V26_1,V26_2,V26_3⟩:=zf4 BK438))
  refine bodyPost_ret (results_cell_row rfl _ _ gb438 25 #[.int .i64 t462,.int .i64 t463,.int .i64 t464,.int .i64 t465] (0,0) _ rfl (zQ BK438.1) Tryz.underlying25 rfl (by kernel_rfl)) rfl ?_
  exact ⟨zE,zH2 HB.1 (IsS115.ge HI442.1) GE438.1⟩
mutual
def impl_Field_isMatching.l0:Nat→List Int→Int→Int→Int→Int→Int→Int→Option (Bool)
 |0,_,_,_,_,_,_,_=>none
 |k+1,x1,x8,x9,x469000,x469001,x469002,x469003=>if x9<x8 then (if 0≤x9 then (if x9<(x1.length:Int) then (if (rd x1 x9)=x9 then (impl_Field_isMatching.j1 k x1 x9 x8 x9 true x469000 x469001 x469002 x469003) else (if 0≤(rd x1 x9) then (if (rd x1 x9)<(x1.length:Int) then (impl_Field_isMatching.j1 k x1 x9 x8 x9 ((rd x1 (rd x1 x9))!=x9) x469000 x469001 x469002 x469003) else (none)) else (none))) else (none)) else (none)) else (some true)
def impl_Field_isMatching.j1:Nat→List Int→Int→Int→Int→Bool→Int→Int→Int→Int→Option (Bool)
 |0,_,_,_,_,_,_,_,_,_=>none
 |k+1,x1,x5,x8,x9,x28,x469000,x469001,x469002,x469003=>if x28=true then (some false) else (impl_Field_isMatching.l1 k x1 x5 x8 x9 x5 0 x469000 x469001 x469002 x469003)
def impl_Field_isMatching.l1:Nat→List Int→Int→Int→Int→Int→Int→Int→Int→Int→Int→Option (Bool)
 |0,_,_,_,_,_,_,_,_,_,_=>none
 |k+1,x1,x5,x8,x9,x29,x30,x469000,x469001,x469002,x469003=>if x30<x29 then ((impl_Field_joins.f x469000 x469001 x469002 x469003 x5 x30).bind fun t472=>(if 0≤x5 then (if x5<(x1.length:Int) then (if 0≤x30 then (if x30<(x1.length:Int) then ((impl_Field_joins.f x469000 x469001 x469002 x469003 (rd x1 x5) (rd x1 x30)).bind fun t475=>(if (t472 !=t475)=true then (some false) else (impl_Field_isMatching.l1 k x1 x5 x8 x9 x29 (wrap64 (x30+1)) x469000 x469001 x469002 x469003))) else (none)) else (none)) else (none)) else (none))) else (impl_Field_isMatching.l0 k x1 x8 (wrap64 (x9+1)) x469000 x469001 x469002 x469003)
end
def impl_Field_isMatching.f (k:Nat) (a0_0:Int) (a0_1:Int) (a0_2:Int) (a0_3:Int) (l1:List Int):Option (Bool):=impl_Field_isMatching.l0 k l1 a0_0 0 a0_0 a0_1 a0_2 a0_3
theorem impl_Field_isMatching.mono_l:∀ k,(∀ y0 y1 y2 y3 y4 y5 y6,LeO (impl_Field_isMatching.l0 k y0 y1 y2 y3 y4 y5 y6) (impl_Field_isMatching.l0 (k+1) y0 y1 y2 y3 y4 y5 y6))∧(∀ y0 y1 y2 y3 y4 y5 y6 y7 y8,LeO (impl_Field_isMatching.j1 k y0 y1 y2 y3 y4 y5 y6 y7 y8) (impl_Field_isMatching.j1 (k+1) y0 y1 y2 y3 y4 y5 y6 y7 y8))∧(∀ y0 y1 y2 y3 y4 y5 y6 y7 y8 y9,LeO (impl_Field_isMatching.l1 k y0 y1 y2 y3 y4 y5 y6 y7 y8 y9) (impl_Field_isMatching.l1 (k+1) y0 y1 y2 y3 y4 y5 y6 y7 y8 y9))
 |0=>⟨fun _ _ _ _ _ _ _ r h=>by simp [impl_Field_isMatching.l0] at h,fun _ _ _ _ _ _ _ _ _ r h=>by simp [impl_Field_isMatching.j1] at h,fun _ _ _ _ _ _ _ _ _ _ r h=>by simp [impl_Field_isMatching.l1] at h⟩
 |k+1=>by
  obtain ⟨ih0,ih1,ih2⟩:=impl_Field_isMatching.mono_l k
  refine ⟨?_,?_,?_⟩
  ·intro y0 y1 y2 y3 y4 y5 y6
   unfold impl_Field_isMatching.l0
   exact zO
  ·intro y0 y1 y2 y3 y4 y5 y6 y7 y8
   unfold impl_Field_isMatching.j1
   exact zO
  ·intro y0 y1 y2 y3 y4 y5 y6 y7 y8 y9
   unfold impl_Field_isMatching.l1
   exact zO
theorem impl_Field_isMatching.mono:∀ a0 a1 a2 a3 a4 k,LeO (impl_Field_isMatching.f k a0 a1 a2 a3 a4) (impl_Field_isMatching.f (k+1) a0 a1 a2 a3 a4):=by
 intro a0 a1 a2 a3 a4 k
 obtain ⟨ih0,ih1,ih2⟩:=impl_Field_isMatching.mono_l k
 unfold impl_Field_isMatching.f
 exact zO
def impl_Field_isMatching.T9:Bool×List (List Nat×List Nat):=(true,[([],[]),([],[]),([],[]),([0,1,2],[0,1,2]),([],[]),([],[]),([],[]),([5,6],[5,6]),([7],[7]),([],[]),([],[]),([9,10],[9,10]),([11],[11]),([4,8,12,3],[4,8,12]),([3,13],[3,13])])
def impl_Field_isMatching.B9:List Nat:=[0,0,0,7,0,0,0,96,224,0,0,1536,3584,8191,16383]
theorem impl_Field_isMatching.tab9:rtab .any (opsOf Tryz.f53 9)=impl_Field_isMatching.T9:=by kernel_rfl
theorem impl_Field_isMatching.bits9:waitsOk impl_Field_isMatching.T9.2 impl_Field_isMatching.B9=true:=by kernel_rfl
theorem impl_Field_isMatching.calls (k:Nat) (a0_0:Int) (a0_1:Int) (a0_2:Int) (a0_3:Int) (A1:Option Addr) (c1:Nat) (l1:List Int) (r:Bool) (w:World) (hr1:Kd.C (Kd.int .i64) w A1 l1.length l1) (hc1:l1.length≤c1) (h:impl_Field_isMatching.f k a0_0 a0_1 a0_2 a0_3 l1=some r):
 Calls Tryz.prog 53 #[.agg #[.int .i64 a0_0,.int .i64 a0_1,.int .i64 a0_2,.int .i64 a0_3],.slice A1 l1.length c1] w fun e w'=>e=.returned (.bool r)∧Below w.heap.size w w':=by
 have hu25:=Tryz.underlying25
 have HR1:=Aside0.mk hr1
 have HC1:=Aside0.mk hc1
 clear hr1 hc1
 have HB:=Aside0.mk (Below.refl w.heap.size w)
 have H:(impl_Field_isMatching.l0 k l1 a0_0 0 a0_0 a0_1 a0_2 a0_3)=some r:=h
 clear h
 have H':=Aside0.mk H
 clear H
 go_enter Tryz.func53,Tryz.ntmps53
 go_wp2_with (first|((with_reducible refine gate_dst (N:=2) rfl ?_);refine zX 2 #[.int .i64 a0_0,.int .i64 a0_1,.int .i64 a0_2,.int .i64 a0_3] 25 ?_;intro gb468 hg w3 hbox hb;refine zA4 (below_step (zH HB.1) hb) (hbox) (zs hg HB:w.heap.size≤gb468) (zs hg HB:w.heap.size≤gb468) ?_;clear HB;intro HB BK468 GW468 GE468;clear hb hbox hg;obtain ⟨Z4_0,Z4_1,Z4_2,Z4_3⟩:=zc4 BK468;obtain ⟨V4_0,V4_1,V4_2,V4_3⟩:=zf4 BK468))
 go_loopg [9] k (fun kq v9 w'=>∃ (x9_1:Int),v9=.int .i64 x9_1∧Aside0 (impl_Field_isMatching.l0 kq l1 a0_0 x9_1 a0_0 a0_1 a0_2 a0_3=some r)∧Aside0 (kq≤k)∧Aside0 (w'.heap[gb468]?=some (.cells #[.int .i64 a0_0,.int .i64 a0_1,.int .i64 a0_2,.int .i64 a0_3] 25 (0,0)))∧Aside0 (Below w.heap.size w w'))
 case atStart=>exact ⟨(0),(zF),H',⟨Nat.le_refl _⟩,⟨zB BK468.1⟩,⟨zH1 HB.1 GE468.1⟩⟩
 case round=>
  clear H'
  try clear c1
  try clear p2
  try clear Z4_0 Z4_1 Z4_2 Z4_3 V4_0 V4_1 V4_2 V4_3
  obtain ⟨x9_1,rfl,HA,HK1,BK468,HB⟩:=hrel
  cases gk with
  |zero=>exact absurd HA.1 (by simp [impl_Field_isMatching.l0])
  |succ k1=>
   have H:=HA.1
   clear HA
   simp only [impl_Field_isMatching.l0] at H
   by_cases c5:x9_1<a0_0
   ·rw [if_pos c5] at H
    have c5b0:=decide_eq_true c5
    clear c5
    have HC6:=Aside0.mk H
    clear H
    go_upto_region 4 with (fail)
    go_cut [28] (fun v28 wc=>∃ (kq:Nat) (x28_5:Bool),v28=.bool x28_5∧Aside0 (impl_Field_isMatching.j1 kq l1 x9_1 a0_0 x9_1 x28_5 a0_0 a0_1 a0_2 a0_3=some r)∧Aside0 (kq≤k1)∧Aside0 (wc.heap[gb468]?=some (.cells #[.int .i64 a0_0,.int .i64 a0_1,.int .i64 a0_2,.int .i64 a0_3] 25 (0,0)))∧Aside0 (Below w.heap.size w wc))
    case first=>
     have H:=HC6.1
     clear HC6
     by_cases c7:0≤x9_1
     ·rw [if_pos c7] at H
      have c7b0:=decide_eq_true c7
      clear c7
      (first|rw [c7b0]|(simp only [i64_w,i32_w];rw [c7b0])|skip)
      by_cases c8:x9_1<(l1.length:Int)
      ·rw [if_pos c8] at H
       have c8b0:=decide_eq_true c8
       clear c8
       by_cases c9:(rd l1 x9_1)=x9_1
       ·rw [if_pos c9] at H
        have c9b0:=zq1 c9
        have c9b1:=zq2 c9
        clear c9
        have H':=Aside0.mk H
        clear H
        have p469:0≤(x9_1:Int):=zo
        have q469:x9_1<(l1.length:Int):=zo
        obtain ⟨ad469,e469,hx469_0⟩:=Kd.at_int HR1.1 x9_1 p469 q469
        cases e469
        replace hx469_0:=zy HB hx469_0
        replace p469:=eq_true p469
        replace q469:=eq_true q469
        go_wp2
        go_meet
        case rel=>exact ⟨_,(true),(zF),H',⟨by have:=HK1.1;first|omega|exact Nat.le_refl _⟩,⟨zB BK468.1⟩,⟨zH1 HB.1 GE468.1⟩⟩
       ·rw [if_neg c9] at H
        have c9b0:=zq3 c9
        have c9b1:=zq4 c9
        by_cases c10:0≤(rd l1 x9_1)
        ·rw [if_pos c10] at H
         have c10b0:=decide_eq_true c10
         clear c10
         by_cases c11:(rd l1 x9_1)<(l1.length:Int)
         ·rw [if_pos c11] at H
          have c11b0:=decide_eq_true c11
          clear c11
          have H':=Aside0.mk H
          clear H
          have p469:0≤(x9_1:Int):=zo
          have q469:x9_1<(l1.length:Int):=zo
          obtain ⟨ad469,e469,hx469_0⟩:=Kd.at_int HR1.1 x9_1 p469 q469
          cases e469
          replace hx469_0:=zy HB hx469_0
          replace p469:=eq_true p469
          replace q469:=eq_true q469
          have p470:0≤(x9_1:Int):=zo
          have q470:x9_1<(l1.length:Int):=zo
          obtain ⟨ad470,e470,hx470_0⟩:=Kd.at_int HR1.1 x9_1 p470 q470
          obtain rfl:ad469=ad470:=(by injection e470)
          replace hx470_0:=zy HB hx470_0
          replace p470:=eq_true p470
          replace q470:=eq_true q470
          have p471:0≤((rd l1 x9_1):Int):=zo
          have q471:(rd l1 x9_1)<(l1.length:Int):=zo
          obtain ⟨ad471,e471,hx471_0⟩:=Kd.at_int HR1.1 (rd l1 x9_1) p471 q471
          obtain rfl:ad469=ad471:=(by injection e471)
          replace hx471_0:=zy HB hx471_0
          replace p471:=eq_true p471
          replace q471:=eq_true q471
          go_wp2
          go_meet
          case rel=>exact ⟨_,(((rd l1 (rd l1 x9_1))!=x9_1)),(zF),H',⟨by have:=HK1.1;first|omega|exact Nat.le_refl _⟩,⟨zB BK468.1⟩,⟨zH1 HB.1 GE468.1⟩⟩
         ·rw [if_neg c11] at H
          exact absurd H (by simp)
        ·rw [if_neg c10] at H
         exact absurd H (by simp)
      ·rw [if_neg c8] at H
       exact absurd H (by simp)
     ·rw [if_neg c7] at H
      exact absurd H (by simp)
    case rest=>
     clear HC6
     try clear c1
     try clear p2
     try clear p4
     try clear q4
     try clear hx4
     try clear c5
     try clear c5b0
     try clear c7
     try clear c7b0
     try clear c8
     try clear c8b0
     try clear c9
     try clear c9b0
     try clear c9b1
     try clear c10
     try clear c10b0
     try clear c11
     try clear c11b0
     try clear Z4_0 Z4_1 Z4_2 Z4_3 V4_0 V4_1 V4_2 V4_3
     try clear hx469_0
     try clear hx470_0
     try clear hx471_0
     try clear p2
     try clear p469
     try clear p470
     try clear p471
     try clear q469
     try clear q470
     try clear q471
     obtain ⟨kq,x28_5,rfl,HA,HJ5,BK468,HB⟩:=hcut
     cases kq with
     |zero=>exact absurd HA.1 (by simp [impl_Field_isMatching.j1])
     |succ kj5=>
      have H:=HA.1
      clear HA
      simp only [impl_Field_isMatching.j1] at H
      by_cases c12:x28_5=true
      ·subst c12
       have H1:(some false)=some r:=by rw [if_pos rfl] at H;exact H
       clear H
       have H:=H1
       clear H1
       obtain rfl:=Option.some.inj H
       go_wp2
       go_ret
       exact ⟨zE,zH1 HB.1 GE468.1⟩
      ·replace c12:=Bool.eq_false_iff.mpr c12
       subst c12
       have H1:(impl_Field_isMatching.l1 kj5 l1 x9_1 a0_0 x9_1 x9_1 0 a0_0 a0_1 a0_2 a0_3)=some r:=by rw [if_neg (show ¬ (false=true) by decide)] at H;exact H
       clear H
       have H:=H1
       clear H1
       have H':=Aside0.mk H
       clear H
       go_wp2
       go_loopg [30] kj5 (fun kq v30 w'=>∃ (x30_3:Int),v30=.int .i64 x30_3∧Aside0 (impl_Field_isMatching.l1 kq l1 x9_1 a0_0 x9_1 x9_1 x30_3 a0_0 a0_1 a0_2 a0_3=some r)∧Aside0 (kq≤kj5)∧Aside0 (w'.heap[gb468]?=some (.cells #[.int .i64 a0_0,.int .i64 a0_1,.int .i64 a0_2,.int .i64 a0_3] 25 (0,0)))∧Aside0 (Below w.heap.size w w'))
       case atStart=>exact ⟨(0),(zF),H',⟨Nat.le_refl _⟩,⟨zB BK468.1⟩,⟨zH1 HB.1 GE468.1⟩⟩
       case round=>
        clear H'
        try clear c1
        try clear p2
        try clear p4
        try clear q4
        try clear hx4
        try clear c5
        try clear c5b0
        try clear c7
        try clear c7b0
        try clear c8
        try clear c8b0
        try clear c9
        try clear c9b0
        try clear c9b1
        try clear c10
        try clear c10b0
        try clear c11
        try clear c11b0
        try clear c12
        try clear Z4_0 Z4_1 Z4_2 Z4_3 V4_0 V4_1 V4_2 V4_3
        try clear hx469_0
        try clear hx470_0
        try clear hx471_0
        try clear p2
        try clear p4
        try clear p469
        try clear p470
        try clear p471
        try clear q4
        try clear q469
        try clear q470
        try clear q471
        obtain ⟨x30_3,rfl,HA,HK3,BK468,HB⟩:=hrel
        cases gk with
        |zero=>exact absurd HA.1 (by simp [impl_Field_isMatching.l1])
        |succ k3=>
         have H:=HA.1
         clear HA
         simp only [impl_Field_isMatching.l1] at H
         by_cases c13:x30_3<x9_1
         ·rw [if_pos c13] at H
          have c13b0:=decide_eq_true c13
          clear c13
          obtain ⟨t472,A14,H⟩:=zb H
          by_cases c15:0≤x9_1
          ·rw [if_pos c15] at H
           have c15b0:=decide_eq_true c15
           clear c15
           by_cases c16:x9_1<(l1.length:Int)
           ·rw [if_pos c16] at H
            have c16b0:=decide_eq_true c16
            clear c16
            by_cases c17:0≤x30_3
            ·rw [if_pos c17] at H
             have c17b0:=decide_eq_true c17
             clear c17
             by_cases c18:x30_3<(l1.length:Int)
             ·rw [if_pos c18] at H
              have c18b0:=decide_eq_true c18
              clear c18
              obtain ⟨t475,A19,H⟩:=zb H
              by_cases c20:(t472 !=t475)=true
              ·rw [if_pos c20] at H
               have c20b0:(t472 !=t475)=true:=c20
               (try (have c20b1:decide (t472=t475)=false:=by simpa using c20))
               (try (have c20b2:(t472==t475)=false:=by simpa using c20))
               (try (have c20b3:¬ (t472=t475):=by simpa using c20))
               clear c20
               obtain rfl:=Option.some.inj H
               try go_wp2
               refine zA2 (blk_drew BK468.1) (below_drew1 HB.1) ?_
               clear BK468 HB
               intro BK468 HB
               have p473:0≤(x9_1:Int):=zo
               have q473:x9_1<(l1.length:Int):=zo
               obtain ⟨ad473,e473,hx473_0⟩:=Kd.at_int HR1.1 x9_1 p473 q473
               have hw473_0:=hx473_0
               cases e473
               replace hx473_0:=zy HB hx473_0
               replace p473:=eq_true p473
               replace q473:=eq_true q473
               have p474:0≤(x30_3:Int):=zo
               have q474:x30_3<(l1.length:Int):=zo
               obtain ⟨ad474,e474,hx474_0⟩:=Kd.at_int HR1.1 x30_3 p474 q474
               have hw474_0:=hx474_0
               obtain rfl:ad473=ad474:=(by injection e474)
               replace hx474_0:=zy HB hx474_0
               replace p474:=eq_true p474
               replace q474:=eq_true q474
               refine start_ (n:=15) (S:=fun w'=>w'.cell? ⟨gb468,0,none⟩=some (.int .i64 a0_0)∧w'.cell? ⟨gb468,1,none⟩=some (.int .i64 a0_1)∧w'.cell? ⟨gb468,2,none⟩=some (.int .i64 a0_2)∧w'.cell? ⟨gb468,3,none⟩=some (.int .i64 a0_3)∧w'.cell? (ad473.add (x9_1).toNat)=some (.int .i64 (rd l1 x9_1))∧w'.cell? (ad473.add (x30_3).toNat)=some (.int .i64 (rd l1 x30_3))) (ds:=[]) #[false,false,false,false,false,false,false,false,false,false,false,false,false,false,false] (by kernel_rfl) rfl rfl ⟨zx BK468 0,zx BK468 1,zx BK468 2,zx BK468 3,(zy HB hw473_0),(zy HB hw474_0)⟩ (fun hHeld=>?_);refine with_tabW impl_Field_isMatching.tab9 impl_Field_isMatching.bits9 (fun HT_ HW_=>?_)
               generalize wr.drew=w21 at BK468 HB hx473_0 hx474_0 hHeld ⊢
               refine zP HT_ 1 (some 34) rfl rfl ?_
               refine zP HT_ 2 (some 35) rfl rfl ?_
               refine zP HT_ 5 (some 38) rfl rfl ?_
               refine zP HT_ 6 (some 39) rfl rfl ?_
               refine zP HT_ 7 (some 40) rfl rfl ?_
               refine zP HT_ 9 (some 42) rfl rfl ?_
               refine zP HT_ 10 (some 43) rfl rfl ?_
               refine zP HT_ 11 (some 44) rfl rfl ?_
               refine zT HT_ HW_ hHeld 0 (some 33) rfl rfl ?_
               refine zT HT_ HW_ hHeld 4 (some 37) rfl rfl ?_
               refine zT HT_ HW_ hHeld 8 (some 41) rfl rfl ?_
               refine zT HT_ HW_ hHeld 12 (some 45) rfl rfl ?_
               refine one_ (i:=3) (N:=some 36) #[true,true,true,true,true,true,true,true,true,true,true,true,true,false,false] rfl rfl (one_of HT_.1 (by kernel_rfl)) (by decide) (fun K hK=>?_)
               refine goes_ Tryz.func81 (by kernel_rfl) rfl #[.agg #[.int .i64 a0_0,.int .i64 a0_1,.int .i64 a0_2,.int .i64 a0_3],.int .i64 x9_1,.int .i64 x30_3] (by rfl) rfl rfl zM ?_
               with_reducible refine (impl_Field_joins.calls a0_0 a0_1 a0_2 a0_3 x9_1 x30_3 t472 _ A14.1).mono ?_
               rintro e w22 ⟨rfl,hb⟩
               refine ⟨_,rfl,?_⟩
               refine zA2 (zY BK468.1 hb) (below_step (zH1 HB.1 GE468.1) hb) ?_
               clear BK468 HB
               intro BK468 HB
               (try clear hb)
               (try clear hb2)
               (try clear hk)
               (try clear hi)
               refine hK.out _ _ ⟨zx BK468 0,zx BK468 1,zx BK468 2,zx BK468 3,(zy HB hw473_0),(zy HB hw474_0)⟩ (fun hHeld=>?_)
               clear hK K
               refine zW (some 36) ?_
               refine one_ (i:=13) (N:=some 46) #[true,true,true,true,true,true,true,true,true,true,true,true,true,true,false] rfl rfl (one_of HT_.1 (by kernel_rfl)) (by decide) (fun K hK=>?_)
               refine goes_ Tryz.func81 (by kernel_rfl) rfl #[.agg #[.int .i64 a0_0,.int .i64 a0_1,.int .i64 a0_2,.int .i64 a0_3],.int .i64 (rd l1 x9_1),.int .i64 (rd l1 x30_3)] (by rfl) rfl rfl zM ?_
               with_reducible refine (impl_Field_joins.calls a0_0 a0_1 a0_2 a0_3 (rd l1 x9_1) (rd l1 x30_3) t475 _ A19.1).mono ?_
               rintro e w23 ⟨rfl,hb⟩
               refine ⟨_,rfl,?_⟩
               refine zA2 (zY BK468.1 hb) (below_step (zH1 HB.1 GE468.1) hb) ?_
               clear BK468 HB
               intro BK468 HB
               (try clear hb)
               (try clear hb2)
               (try clear hk)
               (try clear hi)
               refine hK.out _ _ ⟨zx BK468 0,zx BK468 1,zx BK468 2,zx BK468 3,(zy HB hw473_0),(zy HB hw474_0)⟩ (fun hHeld=>?_)
               clear hK K
               refine zW (some 46) ?_
               refine zP HT_ 14 (some 47) rfl rfl ?_
               refine done_ (done_of HT_.1 (by kernel_rfl)) ?_
               try go_wp2
               go_ret
               exact ⟨zE,zH1 HB.1 GE468.1⟩
              ·rw [if_neg c20] at H
               have c20b0:(t472 !=t475)=false:=by simpa using c20
               (try (have c20b1:decide (t472=t475)=true:=by simpa using c20))
               (try (have c20b2:(t472==t475)=true:=by simpa using c20))
               clear c20
               have H':=Aside0.mk H
               clear H
               try go_wp2
               refine zA2 (blk_drew BK468.1) (below_drew1 HB.1) ?_
               clear BK468 HB
               intro BK468 HB
               have p473:0≤(x9_1:Int):=zo
               have q473:x9_1<(l1.length:Int):=zo
               obtain ⟨ad473,e473,hx473_0⟩:=Kd.at_int HR1.1 x9_1 p473 q473
               have hw473_0:=hx473_0
               cases e473
               replace hx473_0:=zy HB hx473_0
               replace p473:=eq_true p473
               replace q473:=eq_true q473
               have p474:0≤(x30_3:Int):=zo
               have q474:x30_3<(l1.length:Int):=zo
               obtain ⟨ad474,e474,hx474_0⟩:=Kd.at_int HR1.1 x30_3 p474 q474
               have hw474_0:=hx474_0
               obtain rfl:ad473=ad474:=(by injection e474)
               replace hx474_0:=zy HB hx474_0
               replace p474:=eq_true p474
               replace q474:=eq_true q474
               refine start_ (n:=15) (S:=fun w'=>w'.cell? ⟨gb468,0,none⟩=some (.int .i64 a0_0)∧w'.cell? ⟨gb468,1,none⟩=some (.int .i64 a0_1)∧w'.cell? ⟨gb468,2,none⟩=some (.int .i64 a0_2)∧w'.cell? ⟨gb468,3,none⟩=some (.int .i64 a0_3)∧w'.cell? (ad473.add (x9_1).toNat)=some (.int .i64 (rd l1 x9_1))∧w'.cell? (ad473.add (x30_3).toNat)=some (.int .i64 (rd l1 x30_3))) (ds:=[]) #[false,false,false,false,false,false,false,false,false,false,false,false,false,false,false] (by kernel_rfl) rfl rfl ⟨zx BK468 0,zx BK468 1,zx BK468 2,zx BK468 3,(zy HB hw473_0),(zy HB hw474_0)⟩ (fun hHeld=>?_);refine with_tabW impl_Field_isMatching.tab9 impl_Field_isMatching.bits9 (fun HT_ HW_=>?_)
               generalize wr.drew=w24 at BK468 HB hx473_0 hx474_0 hHeld ⊢
               refine zP HT_ 1 (some 34) rfl rfl ?_
               refine zP HT_ 2 (some 35) rfl rfl ?_
               refine zP HT_ 5 (some 38) rfl rfl ?_
               refine zP HT_ 6 (some 39) rfl rfl ?_
               refine zP HT_ 7 (some 40) rfl rfl ?_
               refine zP HT_ 9 (some 42) rfl rfl ?_
               refine zP HT_ 10 (some 43) rfl rfl ?_
               refine zP HT_ 11 (some 44) rfl rfl ?_
               refine zT HT_ HW_ hHeld 0 (some 33) rfl rfl ?_
               refine zT HT_ HW_ hHeld 4 (some 37) rfl rfl ?_
               refine zT HT_ HW_ hHeld 8 (some 41) rfl rfl ?_
               refine zT HT_ HW_ hHeld 12 (some 45) rfl rfl ?_
               refine one_ (i:=3) (N:=some 36) #[true,true,true,true,true,true,true,true,true,true,true,true,true,false,false] rfl rfl (one_of HT_.1 (by kernel_rfl)) (by decide) (fun K hK=>?_)
               refine goes_ Tryz.func81 (by kernel_rfl) rfl #[.agg #[.int .i64 a0_0,.int .i64 a0_1,.int .i64 a0_2,.int .i64 a0_3],.int .i64 x9_1,.int .i64 x30_3] (by rfl) rfl rfl zM ?_
               with_reducible refine (impl_Field_joins.calls a0_0 a0_1 a0_2 a0_3 x9_1 x30_3 t472 _ A14.1).mono ?_
               rintro e w25 ⟨rfl,hb⟩
               refine ⟨_,rfl,?_⟩
               refine zA2 (zY BK468.1 hb) (below_step (zH1 HB.1 GE468.1) hb) ?_
               clear BK468 HB
               intro BK468 HB
               (try clear hb)
               (try clear hb2)
               (try clear hk)
               (try clear hi)
               refine hK.out _ _ ⟨zx BK468 0,zx BK468 1,zx BK468 2,zx BK468 3,(zy HB hw473_0),(zy HB hw474_0)⟩ (fun hHeld=>?_)
               clear hK K
               refine zW (some 36) ?_
               refine one_ (i:=13) (N:=some 46) #[true,true,true,true,true,true,true,true,true,true,true,true,true,true,false] rfl rfl (one_of HT_.1 (by kernel_rfl)) (by decide) (fun K hK=>?_)
               refine goes_ Tryz.func81 (by kernel_rfl) rfl #[.agg #[.int .i64 a0_0,.int .i64 a0_1,.int .i64 a0_2,.int .i64 a0_3],.int .i64 (rd l1 x9_1),.int .i64 (rd l1 x30_3)] (by rfl) rfl rfl zM ?_
               with_reducible refine (impl_Field_joins.calls a0_0 a0_1 a0_2 a0_3 (rd l1 x9_1) (rd l1 x30_3) t475 _ A19.1).mono ?_
               rintro e w26 ⟨rfl,hb⟩
               refine ⟨_,rfl,?_⟩
               refine zA2 (zY BK468.1 hb) (below_step (zH1 HB.1 GE468.1) hb) ?_
               clear BK468 HB
               intro BK468 HB
               (try clear hb)
               (try clear hb2)
               (try clear hk)
               (try clear hi)
               refine hK.out _ _ ⟨zx BK468 0,zx BK468 1,zx BK468 2,zx BK468 3,(zy HB hw473_0),(zy HB hw474_0)⟩ (fun hHeld=>?_)
               clear hK K
               refine zW (some 46) ?_
               refine zP HT_ 14 (some 47) rfl rfl ?_
               refine done_ (done_of HT_.1 (by kernel_rfl)) ?_
               try go_wp2
               go_roundg k3
               case measure=>have:=HK1.1;have:=HJ5.1;have:=HK3.1;omega
               case rel=>exact ⟨(wrap64 (x30_3+1)),(zF),H',⟨by have:=HK1.1;have:=HJ5.1;have:=HK3.1;omega⟩,⟨zB BK468.1⟩,⟨zH1 HB.1 GE468.1⟩⟩
             ·rw [if_neg c18] at H
              exact absurd H (by simp)
            ·rw [if_neg c17] at H
             exact absurd H (by simp)
           ·rw [if_neg c16] at H
            exact absurd H (by simp)
          ·rw [if_neg c15] at H
           exact absurd H (by simp)
         ·rw [if_neg c13] at H
          have c13b0:=decide_eq_false c13
          clear c13
          have H':=Aside0.mk H
          clear H
          go_wp2
          go_roundg k3
          case measure=>have:=HK1.1;have:=HJ5.1;have:=HK3.1;omega
          case rel=>exact ⟨(wrap64 (x9_1+1)),(zF),H',⟨by have:=HK1.1;have:=HJ5.1;have:=HK3.1;omega⟩,⟨zB BK468.1⟩,⟨zH1 HB.1 GE468.1⟩⟩
   ·rw [if_neg c5] at H
    have c5b0:=decide_eq_false c5
    clear c5
    obtain rfl:=Option.some.inj H
    go_wp2
    go_ret
    exact ⟨zE,zH1 HB.1 GE468.1⟩
def bits_Mul32.f (a0:Int) (a1:Int):Option (Int×Int):=some (((IntKind.u64.wrap ((IntKind.u64.wrap (a0))*(IntKind.u64.wrap (a1))))/4294967296)%4294967296,(IntKind.u64.wrap ((IntKind.u64.wrap (a0))*(IntKind.u64.wrap (a1))))%4294967296)
theorem bits_Mul32.calls (a0:Int) (a1:Int) (r1:Int) (r2:Int) (w:World) (h:bits_Mul32.f a0 a1=some (r1,r2)):
 Calls Tryz.prog 93 #[.int .u32 a0,.int .u32 a1] w fun e w'=>e=.returned (.tuple #[.int .u32 r1,.int .u32 r2])∧Drawn0 w w':=by
 have H:(some (((IntKind.u64.wrap ((IntKind.u64.wrap (a0))*(IntKind.u64.wrap (a1))))/4294967296)%4294967296,(IntKind.u64.wrap ((IntKind.u64.wrap (a0))*(IntKind.u64.wrap (a1))))%4294967296))=some (r1,r2):=h
 clear h
 simp only [Option.some.injEq,Prod.mk.injEq] at H
 obtain ⟨rfl,rfl⟩:=H
 go_enter Tryz.func93,Tryz.ntmps93
 go_wp2
 go_ret2
 exact ⟨zF,zD⟩
def bits_Mul64.f (a0:Int) (a1:Int):Option (Int×Int):=some (IntKind.u64.wrap ((IntKind.u64.wrap ((IntKind.u64.wrap ((a0/4294967296)*(a1/4294967296)))+((IntKind.u64.wrap ((IntKind.u64.wrap ((a0/4294967296)*(Go.bits .and .u64 a1 4294967295)))+((IntKind.u64.wrap ((Go.bits .and .u64 a0 4294967295)*(Go.bits .and .u64 a1 4294967295)))/4294967296)))/4294967296)))+((IntKind.u64.wrap ((Go.bits .and .u64 (IntKind.u64.wrap ((IntKind.u64.wrap ((a0/4294967296)*(Go.bits .and .u64 a1 4294967295)))+((IntKind.u64.wrap ((Go.bits .and .u64 a0 4294967295)*(Go.bits .and .u64 a1 4294967295)))/4294967296))) 4294967295)+(IntKind.u64.wrap ((Go.bits .and .u64 a0 4294967295)*(a1/4294967296)))))/4294967296)),IntKind.u64.wrap (a0*a1))
theorem bits_Mul64.calls (a0:Int) (a1:Int) (r1:Int) (r2:Int) (w:World) (h:bits_Mul64.f a0 a1=some (r1,r2)):
 Calls Tryz.prog 94 #[.int .u64 a0,.int .u64 a1] w fun e w'=>e=.returned (.tuple #[.int .u64 r1,.int .u64 r2])∧Drawn0 w w':=by
 have H:(some (IntKind.u64.wrap ((IntKind.u64.wrap ((IntKind.u64.wrap ((a0/4294967296)*(a1/4294967296)))+((IntKind.u64.wrap ((IntKind.u64.wrap ((a0/4294967296)*(Go.bits .and .u64 a1 4294967295)))+((IntKind.u64.wrap ((Go.bits .and .u64 a0 4294967295)*(Go.bits .and .u64 a1 4294967295)))/4294967296)))/4294967296)))+((IntKind.u64.wrap ((Go.bits .and .u64 (IntKind.u64.wrap ((IntKind.u64.wrap ((a0/4294967296)*(Go.bits .and .u64 a1 4294967295)))+((IntKind.u64.wrap ((Go.bits .and .u64 a0 4294967295)*(Go.bits .and .u64 a1 4294967295)))/4294967296))) 4294967295)+(IntKind.u64.wrap ((Go.bits .and .u64 a0 4294967295)*(a1/4294967296)))))/4294967296)),IntKind.u64.wrap (a0*a1)))=some (r1,r2):=h
 clear h
 simp only [Option.some.injEq,Prod.mk.injEq] at H
 obtain ⟨rfl,rfl⟩:=H
 go_enter Tryz.func94,Tryz.ntmps94
 go_wp2
 go_ret2
 exact ⟨zF,zD⟩
def bits_Mul.f (a0:Int) (a1:Int):Option (Int×Int):=(bits_Mul64.f a0 a1).bind fun bt492=>(some (bt492.1,bt492.2))
theorem bits_Mul.calls (a0:Int) (a1:Int) (r1:Int) (r2:Int) (w:World) (h:bits_Mul.f a0 a1=some (r1,r2)):
 Calls Tryz.prog 83 #[.int .u64 a0,.int .u64 a1] w fun e w'=>e=.returned (.tuple #[.int .u64 r1,.int .u64 r2])∧Drawn0 w w':=by
 have H:((bits_Mul64.f a0 a1).bind fun bt492=>(some (bt492.1,bt492.2)))=some (r1,r2):=h
 clear h
 obtain ⟨⟨t492,t493⟩,A3,H⟩:=zb H;(try dsimp only at H)
 simp only [Option.some.injEq,Prod.mk.injEq] at H
 obtain ⟨rfl,rfl⟩:=H
 go_enter Tryz.func83,Tryz.ntmps83
 go_wp2_with (first|((with_reducible refine gate_callee (f:=94) rfl ?_);refine zL (some 25) Tryz.func94 #[.int .u64 a0,.int .u64 a1] ?_;(with_reducible refine (bits_Mul64.calls a0 a1 t492 t493 _ A3.1).mono ?_);rintro e w' ⟨rfl,⟨nd,rfl⟩⟩;refine ⟨_,rfl,?_⟩))
 go_ret2
 exact ⟨zF,zD⟩
end Go.Proofs.YtlmohkbimnhecaaGreat.Q
