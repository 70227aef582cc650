import Derived.Test.YtlmohkbimnhecaaGreatQ0
import Derived.Test.YtlmohkbimnhecaaGreatSq
import Derived.Test.YtlmohkbimnhecaaGreatQ1
import Derived.Test.YtlmohkbimnhecaaGreatQ2
import Derived.Test.YtlmohkbimnhecaaGreatQ4
set_option maxHeartbeats 8000000
set_option maxRecDepth 100000
namespace Go.Proofs.YtlmohkbimnhecaaGreat.Q
open Go.RowKit Go.Proofs.YtlmohkbimnhecaaGreatW.PrintWords Go.Proofs.YtlmohkbimnhecaaGreatW.PrintLast Go.Proofs.YtlmohkbimnhecaaGreatW.PrintMore
attribute [local go_sem] max2_int min2_int max_two min_two max_three min_three max_four min_four
set_option linter.unusedVariables false
set_option linter.unusedSimpArgs false
mutual
def spec_l05Matches.l0:Nat→List Int→Int→Int→Int→Int→Int→Option (Bool)
 |0,_,_,_,_,_,_=>none
 |k+1,x1,x5,x507000,x507001,x507002,x507003=>if x5<x507000 then (if 0≤x5 then (if x5<(x1.length:Int) then (if (rd x1 x5)<0 then (spec_l05Matches.l0 k x1 (wrap64 (x5+1)) x507000 x507001 x507002 x507003) else (if (rd x1 x5)=x5 then (spec_l05Matches.j1 k x1 x5 true x507000 x507001 x507002 x507003) else (if 0≤(rd x1 x5) then (if (rd x1 x5)<(x1.length:Int) then (spec_l05Matches.j1 k x1 x5 ((rd x1 (rd x1 x5))!=x5) x507000 x507001 x507002 x507003) else (none)) else (none)))) else (none)) else (none)) else (some true)
def spec_l05Matches.j1:Nat→List Int→Int→Bool→Int→Int→Int→Int→Option (Bool)
 |0,_,_,_,_,_,_,_=>none
 |k+1,x1,x5,x34,x507000,x507001,x507002,x507003=>if x34=true then (some false) else (spec_l05Matches.l1 k x1 x5 0 x507000 x507001 x507002 x507003)
def spec_l05Matches.l1:Nat→List Int→Int→Int→Int→Int→Int→Int→Option (Bool)
 |0,_,_,_,_,_,_,_=>none
 |k+1,x1,x5,x6,x507000,x507001,x507002,x507003=>if x6<x5 then (if 0≤x6 then (if x6<(x1.length:Int) then (if (rd x1 x6)≥0 then ((spec_l05Joined.f x507000 x507001 x507002 x507003 x5 x6).bind fun t512=>(if 0≤x5 then (if x5<(x1.length:Int) then ((spec_l05Joined.f x507000 x507001 x507002 x507003 (rd x1 x5) (rd x1 x6)).bind fun t515=>(if (t512 !=t515)=true then (some false) else (spec_l05Matches.l1 k x1 x5 (wrap64 (x6+1)) x507000 x507001 x507002 x507003))) else (none)) else (none))) else (spec_l05Matches.l1 k x1 x5 (wrap64 (x6+1)) x507000 x507001 x507002 x507003)) else (none)) else (none)) else (spec_l05Matches.l0 k x1 (wrap64 (x5+1)) x507000 x507001 x507002 x507003)
end
def spec_l05Matches.f (k:Nat) (a0_0:Int) (a0_1:Int) (a0_2:Int) (a0_3:Int) (l1:List Int):Option (Bool):=spec_l05Matches.l0 k l1 0 a0_0 a0_1 a0_2 a0_3
def spec_l05Matches.T10:Bool×List (List Nat×List Nat):=(true,[([],[]),([],[]),([0,1],[0,1]),([2],[2]),([3],[3]),([4],[4]),([5],[5]),([5],[5]),([5],[5]),([6,7,8,5,5],[5,6,7,8]),([5],[5]),([5],[5]),([5],[5]),([11,12,5],[5,11,12]),([13,5],[5,13]),([5],[5]),([5],[5]),([15,16,5],[5,15,16]),([17,5],[5,17]),([10,14,18,9,5],[5,10,14,18]),([9,19,5],[5,9,19]),([5,20],[5,20])])
def spec_l05Matches.B10:List Nat:=[0,0,3,7,15,31,63,63,63,511,63,63,63,6207,14399,63,63,98367,229439,524287,1048575,2097151]
theorem spec_l05Matches.tab10:rtab .any (opsOf Tryz.f62 10)=spec_l05Matches.T10:=by kernel_rfl
theorem spec_l05Matches.bits10:waitsOk spec_l05Matches.T10.2 spec_l05Matches.B10=true:=by kernel_rfl
theorem spec_l05Matches.calls (k:Nat) (a0_0:Int) (a0_1:Int) (a0_2:Int) (a0_3:Int) (A1:Option Addr) (c1:Nat) (l1:List Int) (r:Bool) (w:World) (hr1:Kd.C (Kd.int .i64) w A1 l1.length l1) (hc1:l1.length≤c1) (h:spec_l05Matches.f k a0_0 a0_1 a0_2 a0_3 l1=some r):
 Calls Tryz.prog 62 #[.agg #[.int .i64 a0_0,.int .i64 a0_1,.int .i64 a0_2,.int .i64 a0_3],.slice A1 l1.length c1] w fun e w'=>e=.returned (.bool r)∧Below w.heap.size w w':=by
 have hu25:=Tryz.underlying25
 have HR1:=Aside0.mk hr1
 have HC1:=Aside0.mk hc1
 clear hr1 hc1
 have HB:=Aside0.mk (Below.refl w.heap.size w)
 have H:(spec_l05Matches.l0 k l1 0 a0_0 a0_1 a0_2 a0_3)=some r:=h
 clear h
 have H':=Aside0.mk H
 clear H
 go_enter Tryz.func62,Tryz.ntmps62
 go_wp2_with (first|((with_reducible refine gate_dst (N:=2) rfl ?_);refine zX 2 #[.int .i64 a0_0,.int .i64 a0_1,.int .i64 a0_2,.int .i64 a0_3] 25 ?_;intro gb506 hg w3 hbox hb;refine zA4 (below_step (zH HB.1) hb) (hbox) (zs hg HB:w.heap.size≤gb506) (zs hg HB:w.heap.size≤gb506) ?_;clear HB;intro HB BK506 GW506 GE506;clear hb hbox hg))
 go_loopg [5] k (fun kq v5 w'=>∃ (x5_1:Int),v5=.int .i64 x5_1∧Aside0 (spec_l05Matches.l0 kq l1 x5_1 a0_0 a0_1 a0_2 a0_3=some r)∧Aside0 (kq≤k)∧Aside0 (w'.heap[gb506]?=some (.cells #[.int .i64 a0_0,.int .i64 a0_1,.int .i64 a0_2,.int .i64 a0_3] 25 (0,0)))∧Aside0 (Below w.heap.size w w'))
 case atStart=>exact ⟨(0),(zF),H',⟨Nat.le_refl _⟩,⟨zB BK506.1⟩,⟨zH1 HB.1 GE506.1⟩⟩
 case round=>
  clear H'
  try clear c1
  try clear p2
  obtain ⟨x5_1,rfl,HA,HK1,BK506,HB⟩:=hrel
  cases gk with
  |zero=>exact absurd HA.1 (by simp [spec_l05Matches.l0])
  |succ k1=>
   have H:=HA.1
   clear HA
   simp only [spec_l05Matches.l0] at H
   by_cases c4:x5_1<a0_0
   ·rw [if_pos c4] at H
    have c4b0:=decide_eq_true c4
    clear c4
    by_cases c5:0≤x5_1
    ·rw [if_pos c5] at H
     have c5b0:=decide_eq_true c5
     clear c5
     by_cases c6:x5_1<(l1.length:Int)
     ·rw [if_pos c6] at H
      have c6b0:=decide_eq_true c6
      clear c6
      by_cases c7:(rd l1 x5_1)<0
      ·rw [if_pos c7] at H
       have c7b0:=decide_eq_true c7
       clear c7
       have H':=Aside0.mk H
       clear H
       obtain ⟨Z8_0,Z8_1,Z8_2,Z8_3⟩:=zc4 BK506
       obtain ⟨V8_0,V8_1,V8_2,V8_3⟩:=zf4 BK506
       have p507:0≤(x5_1:Int):=zo
       have q507:x5_1<(l1.length:Int):=zo
       obtain ⟨ad507,e507,hx507_0⟩:=Kd.at_int HR1.1 x5_1 p507 q507
       cases e507
       replace hx507_0:=zy HB hx507_0
       replace p507:=eq_true p507
       replace q507:=eq_true q507
       go_wp2
       go_roundg k1
       case measure=>have:=HK1.1;omega
       case rel=>exact ⟨(wrap64 (x5_1+1)),(zF),H',⟨by have:=HK1.1;omega⟩,⟨zB BK506.1⟩,⟨zH1 HB.1 GE506.1⟩⟩
      ·rw [if_neg c7] at H
       have c7b0:=decide_eq_false c7
       clear c7
       have HC9:=Aside0.mk H
       clear H
       obtain ⟨Z10_0,Z10_1,Z10_2,Z10_3⟩:=zc4 BK506
       obtain ⟨V10_0,V10_1,V10_2,V10_3⟩:=zf4 BK506
       have p507:0≤(x5_1:Int):=zo
       have q507:x5_1<(l1.length:Int):=zo
       obtain ⟨ad507,e507,hx507_0⟩:=Kd.at_int HR1.1 x5_1 p507 q507
       cases e507
       replace hx507_0:=zy HB hx507_0
       replace p507:=eq_true p507
       replace q507:=eq_true q507
       go_upto_region 5 with (fail)
       go_cut [34] (fun v34 wc=>∃ (kq:Nat) (x34_8:Bool),v34=.bool x34_8∧Aside0 (spec_l05Matches.j1 kq l1 x5_1 x34_8 a0_0 a0_1 a0_2 a0_3=some r)∧Aside0 (kq≤k1)∧Aside0 (wc.heap[gb506]?=some (.cells #[.int .i64 a0_0,.int .i64 a0_1,.int .i64 a0_2,.int .i64 a0_3] 25 (0,0)))∧Aside0 (Below w.heap.size w wc))
       case first=>
        have H:=HC9.1
        clear HC9
        by_cases c11:(rd l1 x5_1)=x5_1
        ·rw [if_pos c11] at H
         have c11b0:=zq1 c11
         have c11b1:=zq2 c11
         clear c11
         (first|rw [c11b0]|(simp only [i64_w,i32_w];rw [c11b0])|skip)
         have H':=Aside0.mk H
         clear H
         have p508:0≤(x5_1:Int):=zo
         have q508:x5_1<(l1.length:Int):=zo
         obtain ⟨ad508,e508,hx508_0⟩:=Kd.at_int HR1.1 x5_1 p508 q508
         obtain rfl:ad507=ad508:=(by injection e508)
         replace hx508_0:=zy HB hx508_0
         replace p508:=eq_true p508
         replace q508:=eq_true q508
         go_wp2
         go_meet
         case rel=>exact ⟨_,(true),(zF),H',⟨by have:=HK1.1;first|omega|exact Nat.le_refl _⟩,⟨zB BK506.1⟩,⟨zH1 HB.1 GE506.1⟩⟩
        ·rw [if_neg c11] at H
         have c11b0:=zq3 c11
         have c11b1:=zq4 c11
         (first|rw [c11b0]|(simp only [i64_w,i32_w];rw [c11b0])|skip)
         by_cases c12:0≤(rd l1 x5_1)
         ·rw [if_pos c12] at H
          have c12b0:=decide_eq_true c12
          clear c12
          by_cases c13:(rd l1 x5_1)<(l1.length:Int)
          ·rw [if_pos c13] at H
           have c13b0:=decide_eq_true c13
           clear c13
           have H':=Aside0.mk H
           clear H
           have p508:0≤(x5_1:Int):=zo
           have q508:x5_1<(l1.length:Int):=zo
           obtain ⟨ad508,e508,hx508_0⟩:=Kd.at_int HR1.1 x5_1 p508 q508
           obtain rfl:ad507=ad508:=(by injection e508)
           replace hx508_0:=zy HB hx508_0
           replace p508:=eq_true p508
           replace q508:=eq_true q508
           have p509:0≤(x5_1:Int):=zo
           have q509:x5_1<(l1.length:Int):=zo
           obtain ⟨ad509,e509,hx509_0⟩:=Kd.at_int HR1.1 x5_1 p509 q509
           obtain rfl:ad507=ad509:=(by injection e509)
           replace hx509_0:=zy HB hx509_0
           replace p509:=eq_true p509
           replace q509:=eq_true q509
           have p510:0≤((rd l1 x5_1):Int):=zo
           have q510:(rd l1 x5_1)<(l1.length:Int):=zo
           obtain ⟨ad510,e510,hx510_0⟩:=Kd.at_int HR1.1 (rd l1 x5_1) p510 q510
           obtain rfl:ad507=ad510:=(by injection e510)
           replace hx510_0:=zy HB hx510_0
           replace p510:=eq_true p510
           replace q510:=eq_true q510
           go_wp2
           go_meet
           case rel=>exact ⟨_,(((rd l1 (rd l1 x5_1))!=x5_1)),(zF),H',⟨by have:=HK1.1;first|omega|exact Nat.le_refl _⟩,⟨zB BK506.1⟩,⟨zH1 HB.1 GE506.1⟩⟩
          ·rw [if_neg c13] at H
           exact absurd H (by simp)
         ·rw [if_neg c12] at H
          exact absurd H (by simp)
       case rest=>
        clear HC9
        try clear c1
        try clear p2
        try clear c4
        try clear c4b0
        try clear c5
        try clear c5b0
        try clear p5
        try clear q5
        try clear hx5
        try clear c6
        try clear c6b0
        try clear p6
        try clear c7
        try clear c7b0
        try clear c11
        try clear c11b0
        try clear c11b1
        try clear c12
        try clear c12b0
        try clear c13
        try clear c13b0
        try clear Z10_0 Z10_1 Z10_2 Z10_3
        try clear Z8_0 Z8_1 Z8_2 Z8_3
        try clear V10_0 V10_1 V10_2 V10_3
        try clear V8_0 V8_1 V8_2 V8_3
        try clear hx507_0
        try clear hx508_0
        try clear hx509_0
        try clear hx510_0
        try clear p2
        try clear p507
        try clear p508
        try clear p509
        try clear p510
        try clear q507
        try clear q508
        try clear q509
        try clear q510
        obtain ⟨kq,x34_8,rfl,HA,HJ8,BK506,HB⟩:=hcut
        cases kq with
        |zero=>exact absurd HA.1 (by simp [spec_l05Matches.j1])
        |succ kj8=>
         have H:=HA.1
         clear HA
         simp only [spec_l05Matches.j1] at H
         by_cases c14:x34_8=true
         ·subst c14
          have H1:(some false)=some r:=by rw [if_pos rfl] at H;exact H
          clear H
          have H:=H1
          clear H1
          obtain rfl:=Option.some.inj H
          go_wp2
          go_ret
          exact ⟨zE,zH1 HB.1 GE506.1⟩
         ·replace c14:=Bool.eq_false_iff.mpr c14
          subst c14
          have H1:(spec_l05Matches.l1 kj8 l1 x5_1 0 a0_0 a0_1 a0_2 a0_3)=some r:=by rw [if_neg (show ¬ (false=true) by decide)] at H;exact H
          clear H
          have H:=H1
          clear H1
          have H':=Aside0.mk H
          clear H
          go_wp2
          go_loopg [6] kj8 (fun kq v6 w'=>∃ (x6_3:Int),v6=.int .i64 x6_3∧Aside0 (spec_l05Matches.l1 kq l1 x5_1 x6_3 a0_0 a0_1 a0_2 a0_3=some r)∧Aside0 (kq≤kj8)∧Aside0 (w'.heap[gb506]?=some (.cells #[.int .i64 a0_0,.int .i64 a0_1,.int .i64 a0_2,.int .i64 a0_3] 25 (0,0)))∧Aside0 (Below w.heap.size w w'))
          case atStart=>exact ⟨(0),(zF),H',⟨Nat.le_refl _⟩,⟨zB BK506.1⟩,⟨zH1 HB.1 GE506.1⟩⟩
          case round=>
           clear H'
           try clear c1
           try clear p2
           try clear c4
           try clear c4b0
           try clear c5
           try clear c5b0
           try clear p5
           try clear q5
           try clear hx5
           try clear c6
           try clear c6b0
           try clear p6
           try clear c7
           try clear c7b0
           try clear c11
           try clear c11b0
           try clear c11b1
           try clear c12
           try clear c12b0
           try clear c13
           try clear c13b0
           try clear c14
           try clear Z10_0 Z10_1 Z10_2 Z10_3
           try clear Z8_0 Z8_1 Z8_2 Z8_3
           try clear V10_0 V10_1 V10_2 V10_3
           try clear V8_0 V8_1 V8_2 V8_3
           try clear hx507_0
           try clear hx508_0
           try clear hx509_0
           try clear hx510_0
           try clear p2
           try clear p5
           try clear p507
           try clear p508
           try clear p509
           try clear p510
           try clear p6
           try clear q5
           try clear q507
           try clear q508
           try clear q509
           try clear q510
           obtain ⟨x6_3,rfl,HA,HK3,BK506,HB⟩:=hrel
           cases gk with
           |zero=>exact absurd HA.1 (by simp [spec_l05Matches.l1])
           |succ k3=>
            have H:=HA.1
            clear HA
            simp only [spec_l05Matches.l1] at H
            by_cases c15:x6_3<x5_1
            ·rw [if_pos c15] at H
             have c15b0:=decide_eq_true c15
             clear c15
             by_cases c16:0≤x6_3
             ·rw [if_pos c16] at H
              have c16b0:=decide_eq_true c16
              clear c16
              by_cases c17:x6_3<(l1.length:Int)
              ·rw [if_pos c17] at H
               have c17b0:=decide_eq_true c17
               clear c17
               by_cases c18:(rd l1 x6_3)≥0
               ·rw [if_pos c18] at H
                have c18b0:=decide_eq_true c18
                clear c18
                obtain ⟨t512,A19,H⟩:=zb H
                by_cases c20:0≤x5_1
                ·rw [if_pos c20] at H
                 have c20b0:=decide_eq_true c20
                 clear c20
                 by_cases c21:x5_1<(l1.length:Int)
                 ·rw [if_pos c21] at H
                  have c21b0:=decide_eq_true c21
                  clear c21
                  obtain ⟨t515,A22,H⟩:=zb H
                  by_cases c23:(t512 !=t515)=true
                  ·rw [if_pos c23] at H
                   have c23b0:(t512 !=t515)=true:=c23
                   (try (have c23b1:decide (t512=t515)=false:=by simpa using c23))
                   (try (have c23b2:(t512==t515)=false:=by simpa using c23))
                   (try (have c23b3:¬ (t512=t515):=by simpa using c23))
                   clear c23
                   obtain rfl:=Option.some.inj H
                   try go_wp2
                   refine zA2 (blk_drew BK506.1) (below_drew1 HB.1) ?_
                   clear BK506 HB
                   intro BK506 HB
                   have p511:0≤(x6_3:Int):=zo
                   have q511:x6_3<(l1.length:Int):=zo
                   obtain ⟨ad511,e511,hx511_0⟩:=Kd.at_int HR1.1 x6_3 p511 q511
                   have hw511_0:=hx511_0
                   obtain rfl:ad507=ad511:=(by injection e511)
                   replace hx511_0:=zy HB hx511_0
                   replace p511:=eq_true p511
                   replace q511:=eq_true q511
                   have p513:0≤(x5_1:Int):=zo
                   have q513:x5_1<(l1.length:Int):=zo
                   obtain ⟨ad513,e513,hx513_0⟩:=Kd.at_int HR1.1 x5_1 p513 q513
                   have hw513_0:=hx513_0
                   obtain rfl:ad507=ad513:=(by injection e513)
                   replace hx513_0:=zy HB hx513_0
                   replace p513:=eq_true p513
                   replace q513:=eq_true q513
                   have p514:0≤(x6_3:Int):=zo
                   have q514:x6_3<(l1.length:Int):=zo
                   obtain ⟨ad514,e514,hx514_0⟩:=Kd.at_int HR1.1 x6_3 p514 q514
                   have hw514_0:=hx514_0
                   obtain rfl:ad507=ad514:=(by injection e514)
                   replace hx514_0:=zy HB hx514_0
                   replace p514:=eq_true p514
                   replace q514:=eq_true q514
                   refine start_ (n:=22) (S:=fun w'=>w'.cell? ⟨gb506,0,none⟩=some (.int .i64 a0_0)∧w'.cell? ⟨gb506,1,none⟩=some (.int .i64 a0_1)∧w'.cell? ⟨gb506,2,none⟩=some (.int .i64 a0_2)∧w'.cell? ⟨gb506,3,none⟩=some (.int .i64 a0_3)∧w'.cell? (ad507.add (x6_3).toNat)=some (.int .i64 (rd l1 x6_3))∧w'.cell? (ad507.add (x5_1).toNat)=some (.int .i64 (rd l1 x5_1))∧w'.cell? (ad507.add (x6_3).toNat)=some (.int .i64 (rd l1 x6_3))) (ds:=[]) #[false,false,false,false,false,false,false,false,false,false,false,false,false,false,false,false,false,false,false,false,false,false] (by kernel_rfl) rfl rfl ⟨zx BK506 0,zx BK506 1,zx BK506 2,zx BK506 3,(zy HB hw511_0),(zy HB hw513_0),(zy HB hw514_0)⟩ (fun hHeld=>?_);refine with_tabW spec_l05Matches.tab10 spec_l05Matches.bits10 (fun HT_ HW_=>?_)
                   generalize wr.drew=w24 at BK506 HB hx511_0 hx513_0 hx514_0 hHeld ⊢
                   refine zP HT_ 0 (some 40) rfl rfl ?_
                   refine zP HT_ 1 (some 41) rfl rfl ?_
                   refine zP HT_ 2 (some 42) rfl rfl ?_
                   refine zT HT_ HW_ hHeld 3 (some 43) rfl rfl ?_
                   refine zP HT_ 4 (some 44) rfl rfl ?_
                   refine zP HT_ 5 (some 45) rfl rfl ?_
                   refine zP HT_ 7 (some 47) rfl rfl ?_
                   refine zP HT_ 8 (some 48) rfl rfl ?_
                   refine zP HT_ 11 (some 51) rfl rfl ?_
                   refine zP HT_ 12 (some 52) rfl rfl ?_
                   refine zP HT_ 13 (some 53) rfl rfl ?_
                   refine zP HT_ 15 (some 55) rfl rfl ?_
                   refine zP HT_ 16 (some 56) rfl rfl ?_
                   refine zP HT_ 17 (some 57) rfl rfl ?_
                   refine zT HT_ HW_ hHeld 6 (some 46) rfl rfl ?_
                   refine zT HT_ HW_ hHeld 10 (some 50) rfl rfl ?_
                   refine zT HT_ HW_ hHeld 14 (some 54) rfl rfl ?_
                   refine zT HT_ HW_ hHeld 18 (some 58) rfl rfl ?_
                   refine one_ (i:=9) (N:=some 49) #[true,true,true,true,true,true,true,true,true,true,true,true,true,true,true,true,true,true,true,false,false,false] rfl rfl (one_of HT_.1 (by kernel_rfl)) (by decide) (fun K hK=>?_)
                   refine goes_ Tryz.func84 (by kernel_rfl) rfl #[.agg #[.int .i64 a0_0,.int .i64 a0_1,.int .i64 a0_2,.int .i64 a0_3],.int .i64 x5_1,.int .i64 x6_3] (by rfl) rfl rfl zM ?_
                   with_reducible refine (spec_l05Joined.calls a0_0 a0_1 a0_2 a0_3 x5_1 x6_3 t512 _ A19.1).mono ?_
                   rintro e w25 ⟨rfl,hb⟩
                   refine ⟨_,rfl,?_⟩
                   refine zA2 (zY BK506.1 hb) (below_step (zH1 HB.1 GE506.1) hb) ?_
                   clear BK506 HB
                   intro BK506 HB
                   (try clear hb)
                   (try clear hb2)
                   (try clear hk)
                   (try clear hi)
                   refine hK.out _ _ ⟨zx BK506 0,zx BK506 1,zx BK506 2,zx BK506 3,(zy HB hw511_0),(zy HB hw513_0),(zy HB hw514_0)⟩ (fun hHeld=>?_)
                   clear hK K
                   refine zW (some 49) ?_
                   refine one_ (i:=19) (N:=some 59) #[true,true,true,true,true,true,true,true,true,true,true,true,true,true,true,true,true,true,true,true,false,false] rfl rfl (one_of HT_.1 (by kernel_rfl)) (by decide) (fun K hK=>?_)
                   refine goes_ Tryz.func84 (by kernel_rfl) rfl #[.agg #[.int .i64 a0_0,.int .i64 a0_1,.int .i64 a0_2,.int .i64 a0_3],.int .i64 (rd l1 x5_1),.int .i64 (rd l1 x6_3)] (by rfl) rfl rfl zM ?_
                   with_reducible refine (spec_l05Joined.calls a0_0 a0_1 a0_2 a0_3 (rd l1 x5_1) (rd l1 x6_3) t515 _ A22.1).mono ?_
                   rintro e w26 ⟨rfl,hb⟩
                   refine ⟨_,rfl,?_⟩
                   refine zA2 (zY BK506.1 hb) (below_step (zH1 HB.1 GE506.1) hb) ?_
                   clear BK506 HB
                   intro BK506 HB
                   (try clear hb)
                   (try clear hb2)
                   (try clear hk)
                   (try clear hi)
                   refine hK.out _ _ ⟨zx BK506 0,zx BK506 1,zx BK506 2,zx BK506 3,(zy HB hw511_0),(zy HB hw513_0),(zy HB hw514_0)⟩ (fun hHeld=>?_)
                   clear hK K
                   refine zW (some 59) ?_
                   refine zP HT_ 20 (some 60) rfl rfl ?_
                   refine zP HT_ 21 (some 61) rfl rfl ?_
                   refine done_ (done_of HT_.1 (by kernel_rfl)) ?_
                   try go_wp2
                   go_ret
                   exact ⟨zE,zH1 HB.1 GE506.1⟩
                  ·rw [if_neg c23] at H
                   have c23b0:(t512 !=t515)=false:=by simpa using c23
                   (try (have c23b1:decide (t512=t515)=true:=by simpa using c23))
                   (try (have c23b2:(t512==t515)=true:=by simpa using c23))
                   clear c23
                   have H':=Aside0.mk H
                   clear H
                   try go_wp2
                   refine zA2 (blk_drew BK506.1) (below_drew1 HB.1) ?_
                   clear BK506 HB
                   intro BK506 HB
                   have p511:0≤(x6_3:Int):=zo
                   have q511:x6_3<(l1.length:Int):=zo
                   obtain ⟨ad511,e511,hx511_0⟩:=Kd.at_int HR1.1 x6_3 p511 q511
                   have hw511_0:=hx511_0
                   obtain rfl:ad507=ad511:=(by injection e511)
                   replace hx511_0:=zy HB hx511_0
                   replace p511:=eq_true p511
                   replace q511:=eq_true q511
                   have p513:0≤(x5_1:Int):=zo
                   have q513:x5_1<(l1.length:Int):=zo
                   obtain ⟨ad513,e513,hx513_0⟩:=Kd.at_int HR1.1 x5_1 p513 q513
                   have hw513_0:=hx513_0
                   obtain rfl:ad507=ad513:=(by injection e513)
                   replace hx513_0:=zy HB hx513_0
                   replace p513:=eq_true p513
                   replace q513:=eq_true q513
                   have p514:0≤(x6_3:Int):=zo
                   have q514:x6_3<(l1.length:Int):=zo
                   obtain ⟨ad514,e514,hx514_0⟩:=Kd.at_int HR1.1 x6_3 p514 q514
                   have hw514_0:=hx514_0
                   obtain rfl:ad507=ad514:=(by injection e514)
                   replace hx514_0:=zy HB hx514_0
                   replace p514:=eq_true p514
                   replace q514:=eq_true q514
                   refine start_ (n:=22) (S:=fun w'=>w'.cell? ⟨gb506,0,none⟩=some (.int .i64 a0_0)∧w'.cell? ⟨gb506,1,none⟩=some (.int .i64 a0_1)∧w'.cell? ⟨gb506,2,none⟩=some (.int .i64 a0_2)∧w'.cell? ⟨gb506,3,none⟩=some (.int .i64 a0_3)∧w'.cell? (ad507.add (x6_3).toNat)=some (.int .i64 (rd l1 x6_3))∧w'.cell? (ad507.add (x5_1).toNat)=some (.int .i64 (rd l1 x5_1))∧w'.cell? (ad507.add (x6_3).toNat)=some (.int .i64 (rd l1 x6_3))) (ds:=[]) #[false,false,false,false,false,false,false,false,false,false,false,false,false,false,false,false,false,false,false,false,false,false] (by kernel_rfl) rfl rfl ⟨zx BK506 0,zx BK506 1,zx BK506 2,zx BK506 3,(zy HB hw511_0),(zy HB hw513_0),(zy HB hw514_0)⟩ (fun hHeld=>?_);refine with_tabW spec_l05Matches.tab10 spec_l05Matches.bits10 (fun HT_ HW_=>?_)
                   generalize wr.drew=w27 at BK506 HB hx511_0 hx513_0 hx514_0 hHeld ⊢
                   refine zP HT_ 0 (some 40) rfl rfl ?_
                   refine zP HT_ 1 (some 41) rfl rfl ?_
                   refine zP HT_ 2 (some 42) rfl rfl ?_
                   refine zT HT_ HW_ hHeld 3 (some 43) rfl rfl ?_
                   refine zP HT_ 4 (some 44) rfl rfl ?_
                   refine zP HT_ 5 (some 45) rfl rfl ?_
                   refine zP HT_ 7 (some 47) rfl rfl ?_
                   refine zP HT_ 8 (some 48) rfl rfl ?_
                   refine zP HT_ 11 (some 51) rfl rfl ?_
                   refine zP HT_ 12 (some 52) rfl rfl ?_
                   refine zP HT_ 13 (some 53) rfl rfl ?_
                   refine zP HT_ 15 (some 55) rfl rfl ?_
                   refine zP HT_ 16 (some 56) rfl rfl ?_
                   refine zP HT_ 17 (some 57) rfl rfl ?_
                   refine zT HT_ HW_ hHeld 6 (some 46) rfl rfl ?_
                   refine zT HT_ HW_ hHeld 10 (some 50) rfl rfl ?_
                   refine zT HT_ HW_ hHeld 14 (some 54) rfl rfl ?_
                   refine zT HT_ HW_ hHeld 18 (some 58) rfl rfl ?_
                   refine one_ (i:=9) (N:=some 49) #[true,true,true,true,true,true,true,true,true,true,true,true,true,true,true,true,true,true,true,false,false,false] rfl rfl (one_of HT_.1 (by kernel_rfl)) (by decide) (fun K hK=>?_)
                   refine goes_ Tryz.func84 (by kernel_rfl) rfl #[.agg #[.int .i64 a0_0,.int .i64 a0_1,.int .i64 a0_2,.int .i64 a0_3],.int .i64 x5_1,.int .i64 x6_3] (by rfl) rfl rfl zM ?_
                   with_reducible refine (spec_l05Joined.calls a0_0 a0_1 a0_2 a0_3 x5_1 x6_3 t512 _ A19.1).mono ?_
                   rintro e w28 ⟨rfl,hb⟩
                   refine ⟨_,rfl,?_⟩
                   refine zA2 (zY BK506.1 hb) (below_step (zH1 HB.1 GE506.1) hb) ?_
                   clear BK506 HB
                   intro BK506 HB
                   (try clear hb)
                   (try clear hb2)
                   (try clear hk)
                   (try clear hi)
                   refine hK.out _ _ ⟨zx BK506 0,zx BK506 1,zx BK506 2,zx BK506 3,(zy HB hw511_0),(zy HB hw513_0),(zy HB hw514_0)⟩ (fun hHeld=>?_)
                   clear hK K
                   refine zW (some 49) ?_
                   refine one_ (i:=19) (N:=some 59) #[true,true,true,true,true,true,true,true,true,true,true,true,true,true,true,true,true,true,true,true,false,false] rfl rfl (one_of HT_.1 (by kernel_rfl)) (by decide) (fun K hK=>?_)
                   refine goes_ Tryz.func84 (by kernel_rfl) rfl #[.agg #[.int .i64 a0_0,.int .i64 a0_1,.int .i64 a0_2,.int .i64 a0_3],.int .i64 (rd l1 x5_1),.int .i64 (rd l1 x6_3)] (by rfl) rfl rfl zM ?_
                   with_reducible refine (spec_l05Joined.calls a0_0 a0_1 a0_2 a0_3 (rd l1 x5_1) (rd l1 x6_3) t515 _ A22.1).mono ?_
                   rintro e w29 ⟨rfl,hb⟩
                   refine ⟨_,rfl,?_⟩
                   refine zA2 (zY BK506.1 hb) (below_step (zH1 HB.1 GE506.1) hb) ?_
                   clear BK506 HB
                   intro BK506 HB
                   (try clear hb)
                   (try clear hb2)
                   (try clear hk)
                   (try clear hi)
                   refine hK.out _ _ ⟨zx BK506 0,zx BK506 1,zx BK506 2,zx BK506 3,(zy HB hw511_0),(zy HB hw513_0),(zy HB hw514_0)⟩ (fun hHeld=>?_)
                   clear hK K
                   refine zW (some 59) ?_
                   refine zP HT_ 20 (some 60) rfl rfl ?_
                   refine zP HT_ 21 (some 61) rfl rfl ?_
                   refine done_ (done_of HT_.1 (by kernel_rfl)) ?_
                   try go_wp2
                   go_roundg k3
                   case measure=>have:=HK1.1;have:=HJ8.1;have:=HK3.1;omega
                   case rel=>exact ⟨(wrap64 (x6_3+1)),(zF),H',⟨by have:=HK1.1;have:=HJ8.1;have:=HK3.1;omega⟩,⟨zB BK506.1⟩,⟨zH1 HB.1 GE506.1⟩⟩
                 ·rw [if_neg c21] at H
                  exact absurd H (by simp)
                ·rw [if_neg c20] at H
                 exact absurd H (by simp)
               ·rw [if_neg c18] at H
                have c18b0:=decide_eq_false c18
                clear c18
                have H':=Aside0.mk H
                clear H
                try go_wp2
                refine zA2 (blk_drew BK506.1) (below_drew1 HB.1) ?_
                clear BK506 HB
                intro BK506 HB
                have p511:0≤(x6_3:Int):=zo
                have q511:x6_3<(l1.length:Int):=zo
                obtain ⟨ad511,e511,hx511_0⟩:=Kd.at_int HR1.1 x6_3 p511 q511
                have hw511_0:=hx511_0
                obtain rfl:ad507=ad511:=(by injection e511)
                replace hx511_0:=zy HB hx511_0
                replace p511:=eq_true p511
                replace q511:=eq_true q511
                refine start_ (n:=22) (S:=fun w'=>w'.cell? (ad507.add (x6_3).toNat)=some (.int .i64 (rd l1 x6_3))) (ds:=[]) #[false,false,false,false,false,false,false,false,false,false,false,false,false,false,false,false,false,false,false,false,false,false] (by kernel_rfl) rfl rfl ((zy HB hw511_0)) (fun hHeld=>?_);refine with_tabW spec_l05Matches.tab10 spec_l05Matches.bits10 (fun HT_ HW_=>?_)
                generalize wr.drew=w30 at BK506 HB hx511_0 hHeld ⊢
                refine zP HT_ 0 (some 40) rfl rfl ?_
                refine zP HT_ 1 (some 41) rfl rfl ?_
                refine zP HT_ 2 (some 42) rfl rfl ?_
                refine take_ (i:=3) (N:=some 43) (v:=?_) (a':=?_) #[true,true,true,true,false,false,false,false,false,false,false,false,false,false,false,false,false,false,false,false,false,false] rfl rfl (take_ofW HT_.1 HW_.1 (by kernel_rfl)) (fun _ _ _ h=>h) (Or.inl ⟨by rfl,?_⟩) hHeld ?_ ?_
                rotate_left
                ·intro w' s0
                 go_simp
                 with_reducible rfl
                rotate_left
                ·simp only [Act.put,List.setIfInBounds_toArray,List.set_cons_zero,List.set_cons_succ,i64_w,i32_w]
                 rfl
                refine zP HT_ 4 (some 44) rfl rfl ?_
                refine zP HT_ 5 (some 45) rfl rfl ?_
                refine zU HT_ 6 (some 46) rfl rfl ?_
                refine zU HT_ 7 (some 47) rfl rfl ?_
                refine zU HT_ 8 (some 48) rfl rfl ?_
                refine zU HT_ 9 (some 49) rfl rfl ?_
                refine zU HT_ 10 (some 50) rfl rfl ?_
                refine zU HT_ 11 (some 51) rfl rfl ?_
                refine zU HT_ 12 (some 52) rfl rfl ?_
                refine zU HT_ 13 (some 53) rfl rfl ?_
                refine zU HT_ 14 (some 54) rfl rfl ?_
                refine zU HT_ 15 (some 55) rfl rfl ?_
                refine zU HT_ 16 (some 56) rfl rfl ?_
                refine zU HT_ 17 (some 57) rfl rfl ?_
                refine zU HT_ 18 (some 58) rfl rfl ?_
                refine zU HT_ 19 (some 59) rfl rfl ?_
                refine zU HT_ 20 (some 60) rfl rfl ?_
                refine zP HT_ 21 (some 61) rfl rfl ?_
                refine done_ (done_of HT_.1 (by kernel_rfl)) ?_
                try go_wp2
                go_roundg k3
                case measure=>have:=HK1.1;have:=HJ8.1;have:=HK3.1;omega
                case rel=>exact ⟨(wrap64 (x6_3+1)),(zF),H',⟨by have:=HK1.1;have:=HJ8.1;have:=HK3.1;omega⟩,⟨zB BK506.1⟩,⟨zH1 HB.1 GE506.1⟩⟩
              ·rw [if_neg c17] at H
               exact absurd H (by simp)
             ·rw [if_neg c16] at H
              exact absurd H (by simp)
            ·rw [if_neg c15] at H
             have c15b0:=decide_eq_false c15
             clear c15
             have H':=Aside0.mk H
             clear H
             go_wp2
             go_roundg k3
             case measure=>have:=HK1.1;have:=HJ8.1;have:=HK3.1;omega
             case rel=>exact ⟨(wrap64 (x5_1+1)),(zF),H',⟨by have:=HK1.1;have:=HJ8.1;have:=HK3.1;omega⟩,⟨zB BK506.1⟩,⟨zH1 HB.1 GE506.1⟩⟩
     ·rw [if_neg c6] at H
      exact absurd H (by simp)
    ·rw [if_neg c5] at H
     exact absurd H (by simp)
   ·rw [if_neg c4] at H
    have c4b0:=decide_eq_false c4
    clear c4
    obtain rfl:=Option.some.inj H
    obtain ⟨Z31_0,Z31_1,Z31_2,Z31_3⟩:=zc4 BK506
    obtain ⟨V31_0,V31_1,V31_2,V31_3⟩:=zf4 BK506
    go_wp2
    go_ret
    exact ⟨zE,zH1 HB.1 GE506.1⟩
def spec_l01Own.f (l0:List Int):Option (List Int):=(some (([]:List Int):List Int)).bind fun y516=>(if y516.length+l0.length<17592186044416 then (some (y516++l0)) else (none))
theorem spec_l01Own.calls (A0:Option Addr) (c0:Nat) (l0:List Int) (r:List Int) (w:World) (hr0:Kd.C (Kd.int .i64) w A0 l0.length l0) (hc0:l0.length≤c0) (h:spec_l01Own.f l0=some r):
 Calls Tryz.prog 85 #[.slice A0 l0.length c0] w fun e w'=>∃ v0_:Value,e=.returned (v0_)∧Kd.R (Kd.int .i64) 2 w' w.heap.size (fun _=>True) v0_ r∧Below w.heap.size w w':=by
 have HR0:=Aside0.mk hr0
 have HC0:=Aside0.mk hc0
 clear hr0 hc0
 have HB:=Aside0.mk (Below.refl w.heap.size w)
 have H:((some (([]:List Int):List Int)).bind fun y516=>(if y516.length+l0.length<17592186044416 then (some (y516++l0)) else (none)))=some r:=h
 clear h
 obtain ⟨y516,hy516⟩:∃ y_:List Int,y_=(([]:List Int)):=⟨_,rfl⟩
 replace H:(if y516.length+l0.length<17592186044416 then (some (y516++l0)) else (none))=some r:=by first|(rw [hy516];with_reducible exact H)|(have H2_:=(Option.bind_some _ _).symm.trans H;rw [hy516];with_reducible exact H2_)|(have H2_:=(Option.bind_some _ _).symm.trans H;with_reducible exact H2_)|with_reducible exact H|(rw [hy516];exact H)|exact H
 have Ny516:=Aside0.mk hy516
 clear hy516
 by_cases c2:y516.length+l0.length<17592186044416
 ·rw [if_pos c2] at H
  have LMc2:=Aside0.mk c2
  clear c2
  obtain ⟨y519,hy519⟩:∃ y_:List Int,y_=(y516++l0):=⟨_,rfl⟩
  replace H:(some y519)=some r:=by first|(rw [hy519];with_reducible exact H)|(have H2_:=(Option.bind_some _ _).symm.trans H;rw [hy519];with_reducible exact H2_)|(have H2_:=(Option.bind_some _ _).symm.trans H;with_reducible exact H2_)|with_reducible exact H|(rw [hy519];exact H)|exact H
  have Ny519:=Aside0.mk hy519
  clear hy519
  obtain rfl:=Option.some.inj H
  go_enter Tryz.func85,Tryz.ntmps85
  go_wp2_with (first|((with_reducible refine gate_dst (N:=3) rfl ?_);refine Kd.R_lit (Kd.int .i64) _ 2 ?hg (N:=3) ?hd (xs:=([]:List Int)) (inner:=[]) (ok:=fun _=>True) (okp:=fun _=>True) ?hr ?hp (fun _ hk=>hk) trivial (Below.refl _ _) (Nat.le_refl _) (by simp) ?_;(case hd=>rfl);(case hg=>rfl);(case hr=>first|(go_simp;done)|(go_simp;rfl));(case hp=>exact (Reps.none _ _));intro v517 w3 ho4 hb hg_ hnew_;clear hg_ hnew_;(first|rw [← Ny516.1] at ho4|(simp only [Int.reduceToNat] at ho4;rw [← Ny516.1] at ho4));refine zA2 (Kd.R_lower ho4 (below_size (zH HB.1))) (below_step (zH HB.1) hb) ?_;clear HB;intro HO518 HB;clear hb ho4)|((with_reducible refine gate_builtin (b:=.append) (xs:=#[.tmp 3,.tmp 4]) rfl ?_);at_builtin;refine Kd.R_append_rows (Kd.int .i64) (w0:=w) w.heap.size rfl (.tmp 3) (.tmp 4) 28 2 (.int .i64 0) 8 rfl Tryz.underlying28 info2 rfl (by decide) (by omega) v517 y516 l0 _ _ _ (fun _=>True) (fun _=>False) rfl rfl ?aO ?aR (fun _ _ h=>h) (fun _ h=>h.elim) ?aF ?aB ?aS ?aL ?_;(case aR=>repeat (first|exact (Kd.C_below HR0.1 HB.1)|(with_reducible refine Kd.C_alloc ?_ _)|(with_reducible refine Kd.C_drewN ?_ _)|(with_reducible refine Kd.C_drew ?_)));(case aB=>exact (zH HB.1));(case aF=>exact (fun _ _=>trivial));(case aO=>exact (zR HO518.1));(case aS=>exact (below_size (zH HB.1)));(case aL=>have:=LMc2.1;omega);intro v520 w5 ho hb hg hat;rw [← Ny519.1] at ho;refine zA2 (hb) (ho) ?_;clear HB HO518;intro HB HO521;clear ho hb hg hat))
  go_ret
  exact ⟨_,zE,by (with_reducible repeat (first|apply Kd.R_alloc|apply Kd.R_drewN|apply Kd.R_drew));exact HO521.1,zH HB.1⟩
 ·rw [if_neg c2] at H
  exact absurd H (by simp)
mutual
def spec_l05Kept.j1:Nat→List Int→Int→Int→Int→Int→Int→Option (List Int×Bool)
 |0,_,_,_,_,_,_=>none
 |k+1,x1,x6,x523000,x523001,x523002,x523003=>if x6=x523000 then (some (x1,true)) else (spec_l05Kept.l1 k x1 x6 (wrap64 (x6+1)) x523000 x523001 x523002 x523003)
def spec_l05Kept.l1:Nat→List Int→Int→Int→Int→Int→Int→Int→Option (List Int×Bool)
 |0,_,_,_,_,_,_,_=>none
 |k+1,x1,x6,x7,x523000,x523001,x523002,x523003=>if x7<x523000 then (if 0≤x7 then (if x7<(x1.length:Int) then (if (rd x1 x7)≥0 then (spec_l05Kept.j3 k x1 x6 x7 true x523000 x523001 x523002 x523003) else ((spec_l05Joined.f x523000 x523001 x523002 x523003 x6 x7).bind fun t525=>(if t525=true then (spec_l05Kept.j3 k x1 x6 x7 true x523000 x523001 x523002 x523003) else (if 0≤(IntKind.u64.wrap (x6)) then (if 0≤(IntKind.u64.wrap (x7)) then (if (Go.bits .and .i64 (shr .i64 x523002 (IntKind.u64.wrap (x6))) 1)=(Go.bits .and .i64 (shr .i64 x523003 (IntKind.u64.wrap (x7))) 1) then (spec_l05Kept.j3 k x1 x6 x7 ((Go.bits .and .i64 (shr .i64 x523003 (IntKind.u64.wrap (x6))) 1)!=(Go.bits .and .i64 (shr .i64 x523002 (IntKind.u64.wrap (x7))) 1)) x523000 x523001 x523002 x523003) else (spec_l05Kept.j3 k x1 x6 x7 true x523000 x523001 x523002 x523003)) else (none)) else (none))))) else (none)) else (none)) else (some (([]:List Int),false))
def spec_l05Kept.j3:Nat→List Int→Int→Int→Bool→Int→Int→Int→Int→Option (List Int×Bool)
 |0,_,_,_,_,_,_,_,_=>none
 |k+1,x1,x6,x7,x77,x523000,x523001,x523002,x523003=>if x77=true then (spec_l05Kept.l1 k x1 x6 (wrap64 (x7+1)) x523000 x523001 x523002 x523003) else ((spec_l01Own.f x1).bind fun t526=>(if 0≤x6 then (if x6<(t526.length:Int) then (if 0≤x7 then (if x7<(t526.length:Int) then ((some ((t526.set (x6:Int).toNat x7).set (x7:Int).toNat x6:List Int)).bind fun y530=>((spec_l05Matches.f k x523000 x523001 x523002 x523003 y530).bind fun t531=>(if t531=true then ((spec_l05Kept.f k x523000 x523001 x523002 x523003 y530).bind fun bt532=>(if bt532.2=true then (some (bt532.1,true)) else (spec_l05Kept.l1 k x1 x6 (wrap64 (x7+1)) x523000 x523001 x523002 x523003))) else (spec_l05Kept.l1 k x1 x6 (wrap64 (x7+1)) x523000 x523001 x523002 x523003)))) else (none)) else (none)) else (none)) else (none)))
def spec_l05Kept.l0:Nat→List Int→Int→Int→Int→Int→Int→Option (List Int×Bool)
 |0,_,_,_,_,_,_=>none
 |k+1,x1,x6,x523000,x523001,x523002,x523003=>if x6<x523000 then (if 0≤x6 then (if x6<(x1.length:Int) then (if (rd x1 x6)≥0 then (spec_l05Kept.l0 k x1 (wrap64 (x6+1)) x523000 x523001 x523002 x523003) else (spec_l05Kept.j1 k x1 x6 x523000 x523001 x523002 x523003)) else (none)) else (none)) else (spec_l05Kept.j1 k x1 x6 x523000 x523001 x523002 x523003)
def spec_l05Kept.f:Nat→Int→Int→Int→Int→List Int→Option (List Int×Bool)
 |0,_,_,_,_,_=>none
 |k+1,a0_0,a0_1,a0_2,a0_3,l1=>spec_l05Kept.l0 k l1 0 a0_0 a0_1 a0_2 a0_3
end
theorem spec_l05Kept.calls (k:Nat):∀ (a0_0:Int) (a0_1:Int) (a0_2:Int) (a0_3:Int) (P1_:Nat→Prop) (u9000_:Value) (l1:List Int) (r1:List Int) (r2:Bool) (w0 w:World) (hB:Below w0.heap.size w0 w) (ho1:Kd.R (Kd.int .i64) 2 w w0.heap.size P1_ u9000_ l1) (h:spec_l05Kept.f k a0_0 a0_1 a0_2 a0_3 l1=some (r1,r2)),
 Calls Tryz.prog 48 #[.agg #[.int .i64 a0_0,.int .i64 a0_1,.int .i64 a0_2,.int .i64 a0_3],u9000_] w fun e w'=>∃ v0_:Value,e=.returned (.tuple #[v0_,.bool r2])∧Kd.R (Kd.int .i64) 2 w' w0.heap.size (fun k_=>(P1_ k_∨w.heap.size≤k_)) v0_ r1∧Below w0.heap.size w0 w'∧Kept w w' (fun k_=>P1_ k_):=by
 induction k using Nat.strongRecOn with
 |_ k ih=>
 intro a0_0 a0_1 a0_2 a0_3 P1_ u9000_ l1 r1 r2 w0 w hB ho1 h
 cases k with
 |zero=>exact absurd h (by simp [spec_l05Kept.f])
 |succ k=>
 simp only [spec_l05Kept.f] at h
 have hu25:=Tryz.underlying25
 have HO1:=Aside0.mk (show Kd.R (Kd.int .i64) 2 w w0.heap.size (fun k_=>(P1_ k_∨w.heap.size≤k_)) u9000_ l1 from Kd.R_mono ho1 (fun k_ hk=>(.inl hk)))
 have HK:=Aside0.mk (Kept.refl w (fun k_=>P1_ k_))
 have HW0:=Aside0.mk hB.size
 have HB:=Aside0.mk hB
 clear hB
 have H:(spec_l05Kept.l0 k l1 0 a0_0 a0_1 a0_2 a0_3)=some (r1,r2):=h
 clear h
 have HC3:=Aside0.mk H
 clear H
 go_enter Tryz.func48,Tryz.ntmps48
 go_upto_block 0 with (first|((with_reducible refine gate_dst (N:=2) rfl ?_);refine zX 2 #[.int .i64 a0_0,.int .i64 a0_1,.int .i64 a0_2,.int .i64 a0_3] 25 ?_;intro gb522 hg w4 hbox hb;refine zA6 (Kd.R_below (zR HO1.1) hb) (Kept.below (S:=(fun k_=>P1_ k_)) (zK HK.1) hb) (below_step (zH HB.1) hb) (hbox) ((by rw [hg];exact (by first|exact HK.1.1|exact (show Kept w _ (fun k_=>P1_ k_) from zK HK.1).1):w.heap.size≤gb522)) ((zS hg (below_size (zH HB.1)):w0.heap.size≤gb522)) ?_;clear HO1 HK HB;intro HO1 HK HB BK522 GW522 GE522;clear hb hbox hg))
 (try simp only [Act.put,List.setIfInBounds_toArray,List.set_cons_zero,List.set_cons_succ])
 go_cut [6] (fun v6 wc=>∃ (kq:Nat) (x6_2:Int),v6=.int .i64 x6_2∧Aside0 (spec_l05Kept.j1 kq l1 x6_2 a0_0 a0_1 a0_2 a0_3=some (r1,r2))∧Aside0 (kq≤k)∧Aside0 (Kd.R (Kd.int .i64) 2 wc w0.heap.size (fun k_=>(P1_ k_∨w.heap.size≤k_)) u9000_ l1)∧Aside0 (wc.heap[gb522]?=some (.cells #[.int .i64 a0_0,.int .i64 a0_1,.int .i64 a0_2,.int .i64 a0_3] 25 (0,0)))∧Aside0 (Kept w wc (fun k_=>P1_ k_))∧Aside0 (Below w0.heap.size w0 wc))
 case first=>
  have H:=HC3.1
  clear HC3
  have H':=Aside0.mk H
  clear H
  go_wp2
  go_loopg [6] k (fun kq v6 w'=>∃ (x6_1:Int),v6=.int .i64 x6_1∧Aside0 (spec_l05Kept.l0 kq l1 x6_1 a0_0 a0_1 a0_2 a0_3=some (r1,r2))∧Aside0 (kq≤k)∧Aside0 (Kd.R (Kd.int .i64) 2 w' w0.heap.size (fun k_=>(P1_ k_∨w.heap.size≤k_)) u9000_ l1)∧Aside0 (w'.heap[gb522]?=some (.cells #[.int .i64 a0_0,.int .i64 a0_1,.int .i64 a0_2,.int .i64 a0_3] 25 (0,0)))∧Aside0 (Kept w w' (fun k_=>P1_ k_))∧Aside0 (Below w0.heap.size w0 w'))
  case atStart=>exact ⟨(0),(zF),H',⟨Nat.le_refl _⟩,⟨zR HO1.1⟩,⟨zB BK522.1⟩,⟨zK1 HK.1 GW522.1⟩,⟨zH1 HB.1 GE522.1⟩⟩
  case round=>
   clear H'
   try clear p2
   try clear c4
   obtain ⟨x6_1,rfl,HA,HK1,HO_1,BK522,HK,HB⟩:=hrel
   cases gk with
   |zero=>exact absurd HA.1 (by simp [spec_l05Kept.l0])
   |succ k1=>
    have H:=HA.1
    clear HA
    simp only [spec_l05Kept.l0] at H
    by_cases c5:x6_1<a0_0
    ·rw [if_pos c5] at H
     have c5b0:=decide_eq_true c5
     clear c5
     (first|rw [c5b0]|(simp only [i64_w,i32_w];rw [c5b0])|skip)
     by_cases c6:0≤x6_1
     ·rw [if_pos c6] at H
      have c6b0:=decide_eq_true c6
      clear c6
      by_cases c7:x6_1<(l1.length:Int)
      ·rw [if_pos c7] at H
       have c7b0:=decide_eq_true c7
       clear c7
       by_cases c8:(rd l1 x6_1)≥0
       ·rw [if_pos c8] at H
        have c8b0:=decide_eq_true c8
        clear c8
        have H':=Aside0.mk H
        clear H
        obtain ⟨Z9_0,Z9_1,Z9_2,Z9_3⟩:=zc4 BK522
        obtain ⟨V9_0,V9_1,V9_2,V9_3⟩:=zf4 BK522
        obtain ⟨Ao10,co10,eo10⟩:=Kd.R_slice HO_1.1
        subst eo10
        have p523:0≤(x6_1:Int):=zo
        have q523:x6_1<(l1.length:Int):=zo
        obtain ⟨ad523,e523,hx523_0⟩:=Kd.at_int (Kd.R_reads' HO_1.1).2.2 x6_1 p523 q523
        cases e523
        replace p523:=eq_true p523
        replace q523:=eq_true q523
        go_wp2
        go_roundg k1
        case measure=>have:=HK1.1;omega
        case rel=>exact ⟨(wrap64 (x6_1+1)),(zF),H',⟨by have:=HK1.1;omega⟩,⟨zR HO_1.1⟩,⟨zB BK522.1⟩,⟨zK1 HK.1 GW522.1⟩,⟨zH1 HB.1 GE522.1⟩⟩
       ·rw [if_neg c8] at H
        have c8b0:=decide_eq_false c8
        clear c8
        have H':=Aside0.mk H
        clear H
        obtain ⟨Z11_0,Z11_1,Z11_2,Z11_3⟩:=zc4 BK522
        obtain ⟨V11_0,V11_1,V11_2,V11_3⟩:=zf4 BK522
        obtain ⟨Ao12,co12,eo12⟩:=Kd.R_slice HO_1.1
        subst eo12
        have p523:0≤(x6_1:Int):=zo
        have q523:x6_1<(l1.length:Int):=zo
        obtain ⟨ad523,e523,hx523_0⟩:=Kd.at_int (Kd.R_reads' HO_1.1).2.2 x6_1 p523 q523
        cases e523
        replace p523:=eq_true p523
        replace q523:=eq_true q523
        go_wp2
        go_meet
        case rel=>exact ⟨_,(x6_1),(zF),H',⟨by have:=HK1.1;first|omega|exact Nat.le_refl _⟩,⟨zR HO_1.1⟩,⟨zB BK522.1⟩,⟨zK1 HK.1 GW522.1⟩,⟨zH1 HB.1 GE522.1⟩⟩
      ·rw [if_neg c7] at H
       exact absurd H (by simp)
     ·rw [if_neg c6] at H
      exact absurd H (by simp)
    ·rw [if_neg c5] at H
     have c5b0:=decide_eq_false c5
     clear c5
     (first|rw [c5b0]|(simp only [i64_w,i32_w];rw [c5b0])|skip)
     have H':=Aside0.mk H
     clear H
     obtain ⟨Z13_0,Z13_1,Z13_2,Z13_3⟩:=zc4 BK522
     obtain ⟨V13_0,V13_1,V13_2,V13_3⟩:=zf4 BK522
     go_wp2
     go_meet
     case rel=>exact ⟨_,(x6_1),(zF),H',⟨by have:=HK1.1;first|omega|exact Nat.le_refl _⟩,⟨zR HO_1.1⟩,⟨zB BK522.1⟩,⟨zK1 HK.1 GW522.1⟩,⟨zH1 HB.1 GE522.1⟩⟩
 case rest=>
  clear HC3
  try clear p2
  try clear c4
  try clear c5
  try clear c5b0
  try clear p5
  try clear q5
  try clear hx5
  try clear c6
  try clear c6b0
  try clear p6
  try clear c7
  try clear c7b0
  try clear c8
  try clear c8b0
  try clear Z11_0 Z11_1 Z11_2 Z11_3
  try clear Z13_0 Z13_1 Z13_2 Z13_3
  try clear Z9_0 Z9_1 Z9_2 Z9_3
  try clear V11_0 V11_1 V11_2 V11_3
  try clear V13_0 V13_1 V13_2 V13_3
  try clear V9_0 V9_1 V9_2 V9_3
  try clear hx523_0
  try clear p2
  try clear p523
  try clear q523
  obtain ⟨kq,x6_2,rfl,HA,HJ2,HO_1,BK522,HK,HB⟩:=hcut
  cases kq with
  |zero=>exact absurd HA.1 (by simp [spec_l05Kept.j1])
  |succ kj2=>
   have H:=HA.1
   clear HA
   simp only [spec_l05Kept.j1] at H
   by_cases c14:x6_2=a0_0
   ·rw [if_pos c14] at H
    have c14b0:=zq1 c14
    have c14b1:=zq2 c14
    clear c14
    simp only [Option.some.injEq,Prod.mk.injEq] at H
    obtain ⟨rfl,rfl⟩:=H
    obtain ⟨Z15_0,Z15_1,Z15_2,Z15_3⟩:=zc4 BK522
    obtain ⟨V15_0,V15_1,V15_2,V15_3⟩:=zf4 BK522
    go_wp2
    go_ret2
    exact ⟨_,zE,by (with_reducible repeat (first|apply Kd.R_alloc|apply Kd.R_drewN|apply Kd.R_drew));exact HO_1.1,zH1 HB.1 GE522.1,zK1 HK.1 GW522.1⟩
   ·rw [if_neg c14] at H
    have c14b0:=zq3 c14
    have c14b1:=zq4 c14
    have H':=Aside0.mk H
    clear H
    obtain ⟨Z16_0,Z16_1,Z16_2,Z16_3⟩:=zc4 BK522
    obtain ⟨V16_0,V16_1,V16_2,V16_3⟩:=zf4 BK522
    go_wp2
    go_loopg [7] kj2 (fun kq v7 w'=>∃ (x1_2:List Int) (x7_2:Int),v7=.int .i64 x7_2∧Aside0 (spec_l05Kept.l1 kq x1_2 x6_2 x7_2 a0_0 a0_1 a0_2 a0_3=some (r1,r2))∧Aside0 (kq≤kj2)∧Aside0 (Kd.R (Kd.int .i64) 2 w' w0.heap.size (fun k_=>(P1_ k_∨w.heap.size≤k_)) u9000_ x1_2)∧Aside0 (w'.heap[gb522]?=some (.cells #[.int .i64 a0_0,.int .i64 a0_1,.int .i64 a0_2,.int .i64 a0_3] 25 (0,0)))∧Aside0 (Kept w w' (fun k_=>P1_ k_))∧Aside0 (Below w0.heap.size w0 w'))
    case atStart=>exact ⟨(l1),(wrap64 (x6_2+1)),(zF),H',⟨Nat.le_refl _⟩,⟨zR HO_1.1⟩,⟨zB BK522.1⟩,⟨zK1 HK.1 GW522.1⟩,⟨zH1 HB.1 GE522.1⟩⟩
    case round=>
     clear H'
     try clear c1
     try clear p2
     try clear c4
     try clear c5
     try clear c5b0
     try clear p5
     try clear q5
     try clear hx5
     try clear c6
     try clear c6b0
     try clear p6
     try clear c7
     try clear c7b0
     try clear c8
     try clear c8b0
     try clear c14
     try clear c14b0
     try clear c14b1
     try clear Z11_0 Z11_1 Z11_2 Z11_3
     try clear Z13_0 Z13_1 Z13_2 Z13_3
     try clear Z15_0 Z15_1 Z15_2 Z15_3
     try clear Z16_0 Z16_1 Z16_2 Z16_3
     try clear Z9_0 Z9_1 Z9_2 Z9_3
     try clear V11_0 V11_1 V11_2 V11_3
     try clear V13_0 V13_1 V13_2 V13_3
     try clear V15_0 V15_1 V15_2 V15_3
     try clear V16_0 V16_1 V16_2 V16_3
     try clear V9_0 V9_1 V9_2 V9_3
     try clear hx523_0
     try clear p2
     try clear p5
     try clear p523
     try clear p6
     try clear q5
     try clear q523
     obtain ⟨x1_2,x7_2,rfl,HA,HK2,HO_1,BK522,HK,HB⟩:=hrel
     cases gk with
     |zero=>exact absurd HA.1 (by simp [spec_l05Kept.l1])
     |succ k2=>
      have H:=HA.1
      clear HA
      simp only [spec_l05Kept.l1] at H
      by_cases c17:x7_2<a0_0
      ·rw [if_pos c17] at H
       have c17b0:=decide_eq_true c17
       clear c17
       have HC18:=Aside0.mk H
       clear H
       obtain ⟨Z19_0,Z19_1,Z19_2,Z19_3⟩:=zc4 BK522
       obtain ⟨V19_0,V19_1,V19_2,V19_3⟩:=zf4 BK522
       go_upto_region 9 with (fail)
       go_cut [77] (fun v77 wc=>∃ (kq:Nat) (x77_17:Bool),v77=.bool x77_17∧Aside0 (spec_l05Kept.j3 kq x1_2 x6_2 x7_2 x77_17 a0_0 a0_1 a0_2 a0_3=some (r1,r2))∧Aside0 (kq≤k2)∧Aside0 (Kd.R (Kd.int .i64) 2 wc w0.heap.size (fun k_=>(P1_ k_∨w.heap.size≤k_)) u9000_ x1_2)∧Aside0 (wc.heap[gb522]?=some (.cells #[.int .i64 a0_0,.int .i64 a0_1,.int .i64 a0_2,.int .i64 a0_3] 25 (0,0)))∧Aside0 (Kept w wc (fun k_=>P1_ k_))∧Aside0 (Below w0.heap.size w0 wc))
       case first=>
        have H:=HC18.1
        clear HC18
        by_cases c20:0≤x7_2
        ·rw [if_pos c20] at H
         have c20b0:=decide_eq_true c20
         clear c20
         (first|rw [c20b0]|(simp only [i64_w,i32_w];rw [c20b0])|skip)
         by_cases c21:x7_2<(x1_2.length:Int)
         ·rw [if_pos c21] at H
          have c21b0:=decide_eq_true c21
          clear c21
          by_cases c22:(rd x1_2 x7_2)≥0
          ·rw [if_pos c22] at H
           have c22b0:=decide_eq_true c22
           clear c22
           have H':=Aside0.mk H
           clear H
           obtain ⟨Ao23,co23,eo23⟩:=Kd.R_slice HO_1.1
           subst eo23
           have p524:0≤(x7_2:Int):=zo
           have q524:x7_2<(x1_2.length:Int):=zo
           obtain ⟨ad524,e524,hx524_0⟩:=Kd.at_int (Kd.R_reads' HO_1.1).2.2 x7_2 p524 q524
           cases e524
           replace p524:=eq_true p524
           replace q524:=eq_true q524
           go_wp2
           go_meet
           case rel=>exact ⟨_,(true),(zF),H',⟨by have:=HJ2.1;have:=HK2.1;first|omega|exact Nat.le_refl _⟩,⟨zR HO_1.1⟩,⟨zB BK522.1⟩,⟨zK1 HK.1 GW522.1⟩,⟨zH1 HB.1 GE522.1⟩⟩
          ·rw [if_neg c22] at H
           have c22b0:=decide_eq_false c22
           clear c22
           obtain ⟨t525,A24,H⟩:=zb H
           by_cases c25:t525=true
           ·subst c25
            have H1:(spec_l05Kept.j3 k2 x1_2 x6_2 x7_2 true a0_0 a0_1 a0_2 a0_3)=some (r1,r2):=by rw [if_pos rfl] at H;exact H
            clear H
            have H:=H1
            clear H1
            have H':=Aside0.mk H
            clear H
            obtain ⟨Ao26,co26,eo26⟩:=Kd.R_slice HO_1.1
            subst eo26
            have p524:0≤(x7_2:Int):=zo
            have q524:x7_2<(x1_2.length:Int):=zo
            obtain ⟨ad524,e524,hx524_0⟩:=Kd.at_int (Kd.R_reads' HO_1.1).2.2 x7_2 p524 q524
            cases e524
            replace p524:=eq_true p524
            replace q524:=eq_true q524
            obtain ⟨Z27_0,Z27_1,Z27_2,Z27_3⟩:=zc4 BK522
            obtain ⟨V27_0,V27_1,V27_2,V27_3⟩:=zf4 BK522
            go_wp2_with (first|(go_at_call 84;(with_reducible refine (spec_l05Joined.calls a0_0 a0_1 a0_2 a0_3 x6_2 x7_2 true _ A24.1).mono ?_);rintro e w28 ⟨rfl,hb⟩;refine zA4 (Kd.R_below (zR HO_1.1) hb) (zY BK522.1 hb) (Kept.below (S:=(fun k_=>P1_ k_)) (zK1 HK.1 GW522.1) hb) (below_step (zH1 HB.1 GE522.1) hb) ?_;clear HO_1 BK522 HK HB;intro HO_1 BK522 HK HB;(try clear hb)))
            go_meet
            case rel=>exact ⟨_,(true),(zF),H',⟨by have:=HJ2.1;have:=HK2.1;first|omega|exact Nat.le_refl _⟩,⟨zR HO_1.1⟩,⟨zB BK522.1⟩,⟨zK1 HK.1 GW522.1⟩,⟨zH1 HB.1 GE522.1⟩⟩
           ·replace c25:=Bool.eq_false_iff.mpr c25
            subst c25
            have H1:(if 0≤(IntKind.u64.wrap (x6_2)) then (if 0≤(IntKind.u64.wrap (x7_2)) then (if (Go.bits .and .i64 (shr .i64 a0_2 (IntKind.u64.wrap (x6_2))) 1)=(Go.bits .and .i64 (shr .i64 a0_3 (IntKind.u64.wrap (x7_2))) 1) then (spec_l05Kept.j3 k2 x1_2 x6_2 x7_2 ((Go.bits .and .i64 (shr .i64 a0_3 (IntKind.u64.wrap (x6_2))) 1)!=(Go.bits .and .i64 (shr .i64 a0_2 (IntKind.u64.wrap (x7_2))) 1)) a0_0 a0_1 a0_2 a0_3) else (spec_l05Kept.j3 k2 x1_2 x6_2 x7_2 true a0_0 a0_1 a0_2 a0_3)) else (none)) else (none))=some (r1,r2):=by rw [if_neg (show ¬ (false=true) by decide)] at H;exact H
            clear H
            have H:=H1
            clear H1
            obtain ⟨ji29,hji29⟩:=zj (IntKind.u64.wrap (x6_2))
            (first|rw [hji29] at H|simp only [hji29] at H)
            (try rw [hji29] at A24)
            by_cases c30:0≤(ji29)
            ·rw [if_pos c30] at H
             have c30b0:=eq_true c30
             have c30b1:=decide_eq_true c30
             clear c30
             obtain ⟨ji31,hji31⟩:=zj (shr .i64 a0_2 (ji29))
             (first|rw [hji31] at H|simp only [hji31] at H)
             (try rw [hji31] at A24)
             have hji31_:(a0_2/2 ^ min (ji29).toNat 64)=ji31:=hji31
             have hji31z:(ji29)≤64→(a0_2/2 ^ (ji29).toNat)=ji31:=shr_small hji31
             obtain ⟨ji32,hji32⟩:=zj (IntKind.u64.wrap (x7_2))
             (first|rw [hji32] at H|simp only [hji32] at H)
             (try rw [hji32] at A24)
             by_cases c33:0≤(ji32)
             ·rw [if_pos c33] at H
              have c33b0:=eq_true c33
              have c33b1:=decide_eq_true c33
              clear c33
              obtain ⟨ji34,hji34⟩:=zj (shr .i64 a0_3 (ji32))
              (first|rw [hji34] at H|simp only [hji34] at H)
              (try rw [hji34] at A24)
              have hji34_:(a0_3/2 ^ min (ji32).toNat 64)=ji34:=hji34
              have hji34z:(ji32)≤64→(a0_3/2 ^ (ji32).toNat)=ji34:=shr_small hji34
              by_cases c35:(Go.bits .and .i64 (ji31) 1)=(Go.bits .and .i64 (ji34) 1)
              ·rw [if_pos c35] at H
               have c35b0:=zq1 c35
               have c35b1:=zq2 c35
               clear c35
               have c36b0:=eq_true (zo:0≤(ji29))
               obtain ⟨ji37,hji37⟩:=zj (shr .i64 a0_3 (ji29))
               (first|rw [hji37] at H|simp only [hji37] at H)
               (try rw [hji37] at A24)
               have hji37_:(a0_3/2 ^ min (ji29).toNat 64)=ji37:=hji37
               have hji37z:(ji29)≤64→(a0_3/2 ^ (ji29).toNat)=ji37:=shr_small hji37
               have c38b0:=eq_true (zo:0≤(ji32))
               obtain ⟨ji39,hji39⟩:=zj (shr .i64 a0_2 (ji32))
               (first|rw [hji39] at H|simp only [hji39] at H)
               (try rw [hji39] at A24)
               have hji39_:(a0_2/2 ^ min (ji32).toNat 64)=ji39:=hji39
               have hji39z:(ji32)≤64→(a0_2/2 ^ (ji32).toNat)=ji39:=shr_small hji39
               have H':=Aside0.mk H
               clear H
               obtain ⟨Ao40,co40,eo40⟩:=Kd.R_slice HO_1.1
               subst eo40
               have p524:0≤(x7_2:Int):=zo
               have q524:x7_2<(x1_2.length:Int):=zo
               obtain ⟨ad524,e524,hx524_0⟩:=Kd.at_int (Kd.R_reads' HO_1.1).2.2 x7_2 p524 q524
               cases e524
               replace p524:=eq_true p524
               replace q524:=eq_true q524
               obtain ⟨Z41_0,Z41_1,Z41_2,Z41_3⟩:=zc4 BK522
               obtain ⟨V41_0,V41_1,V41_2,V41_3⟩:=zf4 BK522
               go_wp2_with (first|(go_at_call 84;(with_reducible refine (spec_l05Joined.calls a0_0 a0_1 a0_2 a0_3 x6_2 x7_2 false _ A24.1).mono ?_);rintro e w42 ⟨rfl,hb⟩;refine zA4 (Kd.R_below (zR HO_1.1) hb) (zY BK522.1 hb) (Kept.below (S:=(fun k_=>P1_ k_)) (zK1 HK.1 GW522.1) hb) (below_step (zH1 HB.1 GE522.1) hb) ?_;clear HO_1 BK522 HK HB;intro HO_1 BK522 HK HB;(try clear hb);obtain ⟨Z43_0,Z43_1,Z43_2,Z43_3⟩:=zc4 BK522;obtain ⟨V43_0,V43_1,V43_2,V43_3⟩:=zf4 BK522))
               go_meet
               case rel=>exact ⟨_,(((Go.bits .and .i64 (ji37) 1)!=(Go.bits .and .i64 (ji39) 1))),(by first|rfl|(simp;done)|(simp only [← hji37,← hji39] <;> (first|rfl|simp))|(simp [*];done)),H',⟨by have:=HJ2.1;have:=HK2.1;first|omega|exact Nat.le_refl _⟩,⟨zR HO_1.1⟩,⟨zB BK522.1⟩,⟨zK1 HK.1 GW522.1⟩,⟨zH1 HB.1 GE522.1⟩⟩
              ·rw [if_neg c35] at H
               have c35b0:=zq3 c35
               have c35b1:=zq4 c35
               have H':=Aside0.mk H
               clear H
               obtain ⟨Ao44,co44,eo44⟩:=Kd.R_slice HO_1.1
               subst eo44
               have p524:0≤(x7_2:Int):=zo
               have q524:x7_2<(x1_2.length:Int):=zo
               obtain ⟨ad524,e524,hx524_0⟩:=Kd.at_int (Kd.R_reads' HO_1.1).2.2 x7_2 p524 q524
               cases e524
               replace p524:=eq_true p524
               replace q524:=eq_true q524
               obtain ⟨Z45_0,Z45_1,Z45_2,Z45_3⟩:=zc4 BK522
               obtain ⟨V45_0,V45_1,V45_2,V45_3⟩:=zf4 BK522
               go_wp2_with (first|(go_at_call 84;(with_reducible refine (spec_l05Joined.calls a0_0 a0_1 a0_2 a0_3 x6_2 x7_2 false _ A24.1).mono ?_);rintro e w46 ⟨rfl,hb⟩;refine zA4 (Kd.R_below (zR HO_1.1) hb) (zY BK522.1 hb) (Kept.below (S:=(fun k_=>P1_ k_)) (zK1 HK.1 GW522.1) hb) (below_step (zH1 HB.1 GE522.1) hb) ?_;clear HO_1 BK522 HK HB;intro HO_1 BK522 HK HB;(try clear hb);obtain ⟨Z47_0,Z47_1,Z47_2,Z47_3⟩:=zc4 BK522;obtain ⟨V47_0,V47_1,V47_2,V47_3⟩:=zf4 BK522))
               go_meet
               case rel=>exact ⟨_,(true),(zF),H',⟨by have:=HJ2.1;have:=HK2.1;first|omega|exact Nat.le_refl _⟩,⟨zR HO_1.1⟩,⟨zB BK522.1⟩,⟨zK1 HK.1 GW522.1⟩,⟨zH1 HB.1 GE522.1⟩⟩
             ·rw [if_neg c33] at H
              exact absurd H (by simp)
            ·rw [if_neg c30] at H
             exact absurd H (by simp)
         ·rw [if_neg c21] at H
          exact absurd H (by simp)
        ·rw [if_neg c20] at H
         exact absurd H (by simp)
       case rest=>
        clear HC18
        try clear c1
        try clear c2
        try clear p2
        try clear c3
        try clear c4
        try clear c5
        try clear c5b0
        try clear p5
        try clear q5
        try clear hx5
        try clear c6
        try clear c6b0
        try clear p6
        try clear c7
        try clear c7b0
        try clear c8
        try clear c8b0
        try clear c14
        try clear c14b0
        try clear c14b1
        try clear c17
        try clear c17b0
        try clear c20
        try clear c20b0
        try clear c21
        try clear c21b0
        try clear c22
        try clear c22b0
        try clear c25
        try clear c30
        try clear c30b0
        try clear c30b1
        try clear c33
        try clear c33b0
        try clear c33b1
        try clear c35
        try clear c35b0
        try clear c35b1
        try clear c36
        try clear c36b0
        try clear c38
        try clear c38b0
        try clear Z11_0 Z11_1 Z11_2 Z11_3
        try clear Z13_0 Z13_1 Z13_2 Z13_3
        try clear Z15_0 Z15_1 Z15_2 Z15_3
        try clear Z16_0 Z16_1 Z16_2 Z16_3
        try clear Z19_0 Z19_1 Z19_2 Z19_3
        try clear Z27_0 Z27_1 Z27_2 Z27_3
        try clear Z41_0 Z41_1 Z41_2 Z41_3
        try clear Z43_0 Z43_1 Z43_2 Z43_3
        try clear Z45_0 Z45_1 Z45_2 Z45_3
        try clear Z47_0 Z47_1 Z47_2 Z47_3
        try clear Z9_0 Z9_1 Z9_2 Z9_3
        try clear V11_0 V11_1 V11_2 V11_3
        try clear V13_0 V13_1 V13_2 V13_3
        try clear V15_0 V15_1 V15_2 V15_3
        try clear V16_0 V16_1 V16_2 V16_3
        try clear V19_0 V19_1 V19_2 V19_3
        try clear V27_0 V27_1 V27_2 V27_3
        try clear V41_0 V41_1 V41_2 V41_3
        try clear V43_0 V43_1 V43_2 V43_3
        try clear V45_0 V45_1 V45_2 V45_3
        try clear V47_0 V47_1 V47_2 V47_3
        try clear V9_0 V9_1 V9_2 V9_3
        try clear hx523_0
        try clear hx524_0
        try clear p2
        try clear p5
        try clear p523
        try clear p524
        try clear p6
        try clear q5
        try clear q523
        try clear q524
        obtain ⟨kq,x77_17,rfl,HA,HJ17,HO_1,BK522,HK,HB⟩:=hcut
        cases kq with
        |zero=>exact absurd HA.1 (by simp [spec_l05Kept.j3])
        |succ kj17=>
         have H:=HA.1
         clear HA
         simp only [spec_l05Kept.j3] at H
         by_cases c48:x77_17=true
         ·subst c48
          have H1:(spec_l05Kept.l1 kj17 x1_2 x6_2 (wrap64 (x7_2+1)) a0_0 a0_1 a0_2 a0_3)=some (r1,r2):=by rw [if_pos rfl] at H;exact H
          clear H
          have H:=H1
          clear H1
          have H':=Aside0.mk H
          clear H
          go_wp2
          go_roundg kj17
          case measure=>have:=HJ2.1;have:=HK2.1;have:=HJ17.1;omega
          case rel=>exact ⟨(x1_2),(wrap64 (x7_2+1)),(zF),H',⟨by have:=HJ2.1;have:=HK2.1;have:=HJ17.1;omega⟩,⟨zR HO_1.1⟩,⟨zB BK522.1⟩,⟨zK1 HK.1 GW522.1⟩,⟨zH1 HB.1 GE522.1⟩⟩
         ·replace c48:=Bool.eq_false_iff.mpr c48
          subst c48
          have H1:((spec_l01Own.f x1_2).bind fun t526=>(if 0≤x6_2 then (if x6_2<(t526.length:Int) then (if 0≤x7_2 then (if x7_2<(t526.length:Int) then ((some ((t526.set (x6_2:Int).toNat x7_2).set (x7_2:Int).toNat x6_2:List Int)).bind fun y530=>((spec_l05Matches.f kj17 a0_0 a0_1 a0_2 a0_3 y530).bind fun t531=>(if t531=true then ((spec_l05Kept.f kj17 a0_0 a0_1 a0_2 a0_3 y530).bind fun bt532=>(if bt532.2=true then (some (bt532.1,true)) else (spec_l05Kept.l1 kj17 x1_2 x6_2 (wrap64 (x7_2+1)) a0_0 a0_1 a0_2 a0_3))) else (spec_l05Kept.l1 kj17 x1_2 x6_2 (wrap64 (x7_2+1)) a0_0 a0_1 a0_2 a0_3)))) else (none)) else (none)) else (none)) else (none)))=some (r1,r2):=by rw [if_neg (show ¬ (false=true) by decide)] at H;exact H
          clear H
          have H:=H1
          clear H1
          obtain ⟨t526,A49,H⟩:=zb H
          by_cases c50:0≤x6_2
          ·rw [if_pos c50] at H
           have c50b0:=decide_eq_true c50
           clear c50
           by_cases c51:x6_2<(t526.length:Int)
           ·rw [if_pos c51] at H
            have c51b0:=decide_eq_true c51
            clear c51
            obtain ⟨y529,hy529⟩:∃ y_:List Int,y_=(t526.set (x6_2:Int).toNat x7_2):=⟨_,rfl⟩
            replace H:(if 0≤x7_2 then (if x7_2<(t526.length:Int) then ((some (y529.set (x7_2:Int).toNat x6_2:List Int)).bind fun y530=>((spec_l05Matches.f kj17 a0_0 a0_1 a0_2 a0_3 y530).bind fun t531=>(if t531=true then ((spec_l05Kept.f kj17 a0_0 a0_1 a0_2 a0_3 y530).bind fun bt532=>(if bt532.2=true then (some (bt532.1,true)) else (spec_l05Kept.l1 kj17 x1_2 x6_2 (wrap64 (x7_2+1)) a0_0 a0_1 a0_2 a0_3))) else (spec_l05Kept.l1 kj17 x1_2 x6_2 (wrap64 (x7_2+1)) a0_0 a0_1 a0_2 a0_3)))) else (none)) else (none))=some (r1,r2):=by first|(rw [hy529];with_reducible exact H)|(have H2_:=(Option.bind_some _ _).symm.trans H;rw [hy529];with_reducible exact H2_)|(have H2_:=(Option.bind_some _ _).symm.trans H;with_reducible exact H2_)|with_reducible exact H|(rw [hy529];exact H)|exact H
            have Ny529:=Aside0.mk hy529
            clear hy529
            by_cases c53:0≤x7_2
            ·rw [if_pos c53] at H
             have c53b0:=decide_eq_true c53
             clear c53
             by_cases c54:x7_2<(t526.length:Int)
             ·rw [if_pos c54] at H
              have c54b0:=decide_eq_true c54
              clear c54
              obtain ⟨y530,hy530⟩:∃ y_:List Int,y_=(y529.set (x7_2:Int).toNat x6_2):=⟨_,rfl⟩
              replace H:((spec_l05Matches.f kj17 a0_0 a0_1 a0_2 a0_3 y530).bind fun t531=>(if t531=true then ((spec_l05Kept.f kj17 a0_0 a0_1 a0_2 a0_3 y530).bind fun bt532=>(if bt532.2=true then (some (bt532.1,true)) else (spec_l05Kept.l1 kj17 x1_2 x6_2 (wrap64 (x7_2+1)) a0_0 a0_1 a0_2 a0_3))) else (spec_l05Kept.l1 kj17 x1_2 x6_2 (wrap64 (x7_2+1)) a0_0 a0_1 a0_2 a0_3)))=some (r1,r2):=by first|(rw [hy530];with_reducible exact H)|(have H2_:=(Option.bind_some _ _).symm.trans H;rw [hy530];with_reducible exact H2_)|(have H2_:=(Option.bind_some _ _).symm.trans H;with_reducible exact H2_)|with_reducible exact H|(rw [hy530];exact H)|exact H
              have Ny530:=Aside0.mk hy530
              clear hy530
              obtain ⟨t531,A56,H⟩:=zb H
              by_cases c57:t531=true
              ·subst c57
               have H1:((spec_l05Kept.f kj17 a0_0 a0_1 a0_2 a0_3 y530).bind fun bt532=>(if bt532.2=true then (some (bt532.1,true)) else (spec_l05Kept.l1 kj17 x1_2 x6_2 (wrap64 (x7_2+1)) a0_0 a0_1 a0_2 a0_3)))=some (r1,r2):=by rw [if_pos rfl] at H;exact H
               clear H
               have H:=H1
               clear H1
               obtain ⟨⟨t532,t535⟩,A58,H⟩:=zb H;(try dsimp only at H)
               by_cases c59:t535=true
               ·subst c59
                have H1:(some (t532,true))=some (r1,r2):=by rw [if_pos rfl] at H;exact H
                clear H
                have H:=H1
                clear H1
                simp only [Option.some.injEq,Prod.mk.injEq] at H
                obtain ⟨rfl,rfl⟩:=H
                obtain ⟨Ao60,co60,eo60⟩:=Kd.R_slice HO_1.1
                subst eo60
                go_wp2_with (first|((with_reducible refine gate_callee (f:=85) rfl ?_);refine zL (some 79) Tryz.func85 #[.slice Ao60 x1_2.length co60] ?_;(with_reducible refine (spec_l01Own.calls _ _ x1_2 t526 _ ?side1 ?side2 A49.1).mono ?_);(case side1=>repeat (first|exact (Kd.R_reads' HO_1.1).2.2|(with_reducible refine Kd.C_alloc ?_ _)|(with_reducible refine Kd.C_drewN ?_ _)|(with_reducible refine Kd.C_drew ?_)));(case side2=>exact (Kd.R_reads' HO_1.1).2.1);rintro e w61 ⟨v527,rfl,ho0,hb⟩;refine ⟨_,rfl,?_⟩;refine zA5 (Kd.R_elder' (zR HO_1.1) (Kd.R_base ho0) hb) (Kd.R_lower (Kd.R_new' (Kd.R_newM (M:=fun k_=>(P1_ k_∨w.heap.size≤k_)) ho0 (by first|exact HK.1.1|exact (show Kept w _ (fun k_=>P1_ k_) from zK1 HK.1 GW522.1).1) (fun k_ h_=>.inr h_)) (Kd.R_lt (zR HO_1.1))) (below_size (zH1 HB.1 GE522.1))) (zY BK522.1 hb) (Kept.below (S:=(fun k_=>P1_ k_)) (zK1 HK.1 GW522.1) hb) (below_step (zH1 HB.1 GE522.1) hb) ?_;clear HO_1 BK522 HK HB;intro HO_1 HO528 BK522 HK HB;(try clear hb);(try clear hk);(try clear ho0);have p52:0≤(x6_2:Int):=zo;have q52:(x6_2:Int)<((t526.length:Int):Int):=zo;obtain ⟨go52,co52,eo52,gb52,gl52,cl52,HG52⟩:=Kd.R_form HO528.1 (by omega);(first|cases eo52|(injection eo52 with ea_ en_ ec_;(first|subst ea_|(injection ea_ with ea_;subst ea_));subst ec_;clear en_));have GB52:=Aside0.mk gb52;have GG52:=Aside0.mk HG52;clear gb52 gl52 HG52;have HMgo52:=Aside0.mk (show (P1_ go52∨w.heap.size≤go52) from (HO528.1.1 _ rfl).1.1);obtain ⟨hx52_0,hf52_0⟩:=Kd.R_celln 0 HO528.1 (x6_2:Int) p52 q52;replace p52:=eq_true p52;replace q52:=eq_true q52;have n_:=Aside0.mk (Kd.R_mono (ok':=(fun k_=>(P1_ k_∨w.heap.size≤k_)∧some k_≠(.slice Ao60 x1_2.length co60:Value).ownBlock)) HO528.1 (fun k_ hk=>⟨hk.1.1,hk.2⟩));clear HO528;have HO528:=n_;clear n_;obtain ⟨hy62_,hz62_⟩:=Kd.R_celln 0 HO528.1 (x6_2:Int) zo zo;have HP62:=Kd.R_putg HO528.1 (x6_2:Int) x7_2)|((with_reducible refine gate_store (t:=2) (p:=83) rfl ?_);refine store_event (t:=2) (p:=83) (v:=?vo_w63) (w1:=(w61.setCell ⟨go52,(x6_2:Int).toNat,none⟩ (.int .i64 x7_2))) ?hg ?ho ?hn ?hr ?_;(case ho=>rfl);(case hg=>rfl);(case hn=>rfl);(case hr=>first|(go_simp;done)|(go_simp;rfl));intro w63 hw;have hg:w61.grownBy w63 (some go52):=(by rw [hw];exact HP62.2);have hp_:Kd.R (Kd.int .i64) 2 w63 w0.heap.size (fun k_=>(P1_ k_∨w.heap.size≤k_)∧some k_≠(.slice Ao60 x1_2.length co60:Value).ownBlock) (.slice (some ⟨go52,0,none⟩) t526.length co52) y529:=(by rw [hw,Ny529.1];exact HP62.1);clear HP62;refine zA5 (Kd.R_after (v:=(.slice (some ⟨go52,0,none⟩) t526.length co52)) (v1:=(.slice (some ⟨go52,0,none⟩) t526.length co52)) (ok:=(fun k_=>(P1_ k_∨w.heap.size≤k_))) (zR HO_1.1) hg (.inl rfl)) (blk_grown (g:=gb522) (o:=.cells #[.int .i64 a0_0,.int .i64 a0_1,.int .i64 a0_2,.int .i64 a0_3] 25 (0,0)) (zB BK522.1) hg (Kd.R_ne HO528.1 BK522.1 (by decide))) (hp_) ((by rw [hw];exact below_set (HB.1) GB52.1:Below w0.heap.size w0 w63)) (Kept.of_grown (S:=(fun k_=>P1_ k_)) hg (zK1 HK.1 GW522.1) (fun k_ e_=>(HO528.1.1 k_ e_).1)) ?_;clear HO_1 BK522 HO528 HB HK;intro HO_1 BK522 HO528 HB HK;clear hg hw hp_;have p55:0≤(x7_2:Int):=zo;have q55:(x7_2:Int)<((t526.length:Int):Int):=zo;obtain ⟨hx55_0,hf55_0⟩:=Kd.R_celln 0 HO528.1 (x7_2:Int) p55 q55;replace p55:=eq_true p55;replace q55:=eq_true q55;obtain ⟨hy64_,hz64_⟩:=Kd.R_celln 0 HO528.1 (x7_2:Int) zo zo;have HP64:=Kd.R_putg HO528.1 (x7_2:Int) x6_2)|((with_reducible refine gate_store (t:=2) (p:=87) rfl ?_);refine store_event (t:=2) (p:=87) (v:=?vo_w65) (w1:=(w63.setCell ⟨go52,(x7_2:Int).toNat,none⟩ (.int .i64 x6_2))) ?hg ?ho ?hn ?hr ?_;(case ho=>rfl);(case hg=>rfl);(case hn=>rfl);(case hr=>first|(go_simp;done)|(go_simp;rfl));intro w65 hw;have hg:w63.grownBy w65 (some go52):=(by rw [hw];exact HP64.2);have hp_:Kd.R (Kd.int .i64) 2 w65 w0.heap.size (fun k_=>(P1_ k_∨w.heap.size≤k_)∧some k_≠(.slice Ao60 x1_2.length co60:Value).ownBlock) (.slice (some ⟨go52,0,none⟩) t526.length co52) y530:=(by rw [hw,Ny530.1];exact HP64.1);clear HP64;refine zA5 (Kd.R_after (v:=(.slice (some ⟨go52,0,none⟩) t526.length co52)) (v1:=(.slice (some ⟨go52,0,none⟩) t526.length co52)) (ok:=(fun k_=>(P1_ k_∨w.heap.size≤k_))) (zR HO_1.1) hg (.inl rfl)) (blk_grown (g:=gb522) (o:=.cells #[.int .i64 a0_0,.int .i64 a0_1,.int .i64 a0_2,.int .i64 a0_3] 25 (0,0)) (zB BK522.1) hg (Kd.R_ne HO528.1 BK522.1 (by decide))) (hp_) ((by rw [hw];exact below_set (HB.1) GB52.1:Below w0.heap.size w0 w65)) (Kept.of_grown (S:=(fun k_=>P1_ k_)) hg (zK1 HK.1 GW522.1) (fun k_ e_=>(HO528.1.1 k_ e_).1)) ?_;clear HO_1 BK522 HO528 HB HK;intro HO_1 BK522 HO528 HB HK;clear hg hw hp_;obtain ⟨Z66_0,Z66_1,Z66_2,Z66_3⟩:=zc4 BK522;obtain ⟨V66_0,V66_1,V66_2,V66_3⟩:=zf4 BK522)|((with_reducible refine gate_callee (f:=62) rfl ?_);refine goesL_ (some 90) rfl rfl Tryz.func62 (by kernel_rfl) rfl #[.agg #[.int .i64 a0_0,.int .i64 a0_1,.int .i64 a0_2,.int .i64 a0_3],.slice (some ⟨go52,0,none⟩) y530.length co52] rfl (by (try simp only [List.map_toArray,List.map_cons,List.map_nil]);first|done|(rw [show y530.length=t526.length from (Kd.R_reads' HO528.1).1.symm] <;> rfl)|rfl|(simp only [List.length_drop,List.length_take];rfl)) ?_;(with_reducible refine (spec_l05Matches.calls kj17 a0_0 a0_1 a0_2 a0_3 _ _ y530 true _ ?side1 ?side2 A56.1).mono ?_);(case side1=>repeat (first|exact (Kd.R_reads' HO528.1).2.2|(with_reducible refine Kd.C_alloc ?_ _)|(with_reducible refine Kd.C_drewN ?_ _)|(with_reducible refine Kd.C_drew ?_)));(case side2=>rw [show y530.length=t526.length from (Kd.R_reads' HO528.1).1.symm];exact (Kd.R_reads' HO528.1).2.1);rintro e w67 ⟨rfl,hb⟩;refine ⟨_,rfl,?_⟩;refine zA5 (Kd.R_below (zR HO_1.1) hb) (Kd.R_below (zR HO528.1) hb) (zY BK522.1 hb) (Kept.below (S:=(fun k_=>P1_ k_)) (zK1 HK.1 GW522.1) hb) (below_step (zH1 HB.1 GE522.1) hb) ?_;clear HO_1 HO528 BK522 HK HB;intro HO_1 HO528 BK522 HK HB;(try clear hb);(try clear hk);obtain ⟨Z68_0,Z68_1,Z68_2,Z68_3⟩:=zc4 BK522;obtain ⟨V68_0,V68_1,V68_2,V68_3⟩:=zf4 BK522)|((with_reducible refine gate_callee (f:=48) rfl ?_);refine zL (some 95) Tryz.func48 #[.agg #[.int .i64 a0_0,.int .i64 a0_1,.int .i64 a0_2,.int .i64 a0_3],.slice (some ⟨go52,0,none⟩) t526.length co52] ?_;(with_reducible refine (ih kj17 (by have:=HJ2.1;have:=HK2.1;have:=HJ17.1;omega) a0_0 a0_1 a0_2 a0_3 (fun k_=>some k_=(.slice (some ⟨go52,0,none⟩) t526.length co52:Value).ownBlock) (.slice (some ⟨go52,0,none⟩) t526.length co52) y530 t532 true w0 _ ?side1 ?side2 A58.1).mono ?_);(case side1=>exact zH1 HB.1 GE522.1);(case side2=>exact Kd.R_tight rfl HO528.1);rintro e w69 ⟨v533,rfl,ho0,hb,hkp⟩;refine ⟨_,rfl,?_⟩;refine zA5 (Kd.R_mono (ok':=fun k_=>(P1_ k_∨w.heap.size≤k_)∧some k_≠(v533:Value).ownBlock) (Kd.R_keptB (HO_1.1) hkp (fun k_ hk_ hs_=>(hk_.2) hs_)) (fun k_ hk_=>⟨hk_.1.1,fun e_=>Or.elim (ho0.1 k_ e_.symm) (fun hs_=>hk_.2.1 hs_) (fun hn_=>Nat.not_le.2 hk_.2.2 hn_)⟩)) (blk_kept (zB BK522.1) hkp (fun hs_=>(fun e_=>(Kd.R_ne HO528.1 BK522.1 (by decide)) e_) hs_)) (Kd.R_mono (ok':=fun k_=>(P1_ k_∨w.heap.size≤k_)∧some k_≠(.slice Ao60 x1_2.length co60:Value).ownBlock) ho0 (fun k_ hk_=>⟨Or.elim hk_ (fun hs_=>(HO528.1.1 k_ (hs_).symm).1) (fun hn_=>(.inr (Nat.le_trans (by first|exact HK.1.1|exact (show Kept w _ (fun k_=>P1_ k_) from zK1 HK.1 GW522.1).1) hn_))),Or.elim hk_ (fun hs_=>fun e_=>(((HO_1.1).1 k_ e_.symm).2) hs_) (fun hn_=>(Kd.fresh' (Kd.R_lt (zR HO_1.1)) k_ hn_))⟩)) (Kept.then_ (S:=(fun k_=>P1_ k_)) (zK1 HK.1 GW522.1) hkp (fun k_ hs_=>(fun e_=>(HO528.1.1 k_ e_.symm).1) hs_)) (hb) ?_;clear HO_1 BK522 HK HB HO528;intro HO_1 BK522 HO534 HK HB;(try clear hb);(try clear hkp);(try clear ho0)))
                go_ret2
                exact ⟨_,zE,by (with_reducible repeat (first|apply Kd.R_alloc|apply Kd.R_drewN|apply Kd.R_drew));exact Kd.R_mono HO534.1 (fun _ hk=>hk.1),zH1 HB.1 GE522.1,zK1 HK.1 GW522.1⟩
               ·replace c59:=Bool.eq_false_iff.mpr c59
                subst c59
                have H1:(spec_l05Kept.l1 kj17 x1_2 x6_2 (wrap64 (x7_2+1)) a0_0 a0_1 a0_2 a0_3)=some (r1,r2):=by rw [if_neg (show ¬ (false=true) by decide)] at H;exact H
                clear H
                have H:=H1
                clear H1
                have H':=Aside0.mk H
                clear H
                obtain ⟨Ao70,co70,eo70⟩:=Kd.R_slice HO_1.1
                subst eo70
                go_wp2_with (first|((with_reducible refine gate_callee (f:=85) rfl ?_);refine zL (some 79) Tryz.func85 #[.slice Ao70 x1_2.length co70] ?_;(with_reducible refine (spec_l01Own.calls _ _ x1_2 t526 _ ?side1 ?side2 A49.1).mono ?_);(case side1=>repeat (first|exact (Kd.R_reads' HO_1.1).2.2|(with_reducible refine Kd.C_alloc ?_ _)|(with_reducible refine Kd.C_drewN ?_ _)|(with_reducible refine Kd.C_drew ?_)));(case side2=>exact (Kd.R_reads' HO_1.1).2.1);rintro e w71 ⟨v527,rfl,ho0,hb⟩;refine ⟨_,rfl,?_⟩;refine zA5 (Kd.R_elder' (zR HO_1.1) (Kd.R_base ho0) hb) (Kd.R_lower (Kd.R_new' (Kd.R_newM (M:=fun k_=>(P1_ k_∨w.heap.size≤k_)) ho0 (by first|exact HK.1.1|exact (show Kept w _ (fun k_=>P1_ k_) from zK1 HK.1 GW522.1).1) (fun k_ h_=>.inr h_)) (Kd.R_lt (zR HO_1.1))) (below_size (zH1 HB.1 GE522.1))) (zY BK522.1 hb) (Kept.below (S:=(fun k_=>P1_ k_)) (zK1 HK.1 GW522.1) hb) (below_step (zH1 HB.1 GE522.1) hb) ?_;clear HO_1 BK522 HK HB;intro HO_1 HO528 BK522 HK HB;(try clear hb);(try clear hk);(try clear ho0);have p52:0≤(x6_2:Int):=zo;have q52:(x6_2:Int)<((t526.length:Int):Int):=zo;obtain ⟨go52,co52,eo52,gb52,gl52,cl52,HG52⟩:=Kd.R_form HO528.1 (by omega);(first|cases eo52|(injection eo52 with ea_ en_ ec_;(first|subst ea_|(injection ea_ with ea_;subst ea_));subst ec_;clear en_));have GB52:=Aside0.mk gb52;have GG52:=Aside0.mk HG52;clear gb52 gl52 HG52;have HMgo52:=Aside0.mk (show (P1_ go52∨w.heap.size≤go52) from (HO528.1.1 _ rfl).1.1);obtain ⟨hx52_0,hf52_0⟩:=Kd.R_celln 0 HO528.1 (x6_2:Int) p52 q52;replace p52:=eq_true p52;replace q52:=eq_true q52;have n_:=Aside0.mk (Kd.R_mono (ok':=(fun k_=>(P1_ k_∨w.heap.size≤k_)∧some k_≠(.slice Ao70 x1_2.length co70:Value).ownBlock)) HO528.1 (fun k_ hk=>⟨hk.1.1,hk.2⟩));clear HO528;have HO528:=n_;clear n_;obtain ⟨hy72_,hz72_⟩:=Kd.R_celln 0 HO528.1 (x6_2:Int) zo zo;have HP72:=Kd.R_putg HO528.1 (x6_2:Int) x7_2)|((with_reducible refine gate_store (t:=2) (p:=83) rfl ?_);refine store_event (t:=2) (p:=83) (v:=?vo_w73) (w1:=(w71.setCell ⟨go52,(x6_2:Int).toNat,none⟩ (.int .i64 x7_2))) ?hg ?ho ?hn ?hr ?_;(case ho=>rfl);(case hg=>rfl);(case hn=>rfl);(case hr=>first|(go_simp;done)|(go_simp;rfl));intro w73 hw;have hg:w71.grownBy w73 (some go52):=(by rw [hw];exact HP72.2);have hp_:Kd.R (Kd.int .i64) 2 w73 w0.heap.size (fun k_=>(P1_ k_∨w.heap.size≤k_)∧some k_≠(.slice Ao70 x1_2.length co70:Value).ownBlock) (.slice (some ⟨go52,0,none⟩) t526.length co52) y529:=(by rw [hw,Ny529.1];exact HP72.1);clear HP72;refine zA5 (Kd.R_after (v:=(.slice (some ⟨go52,0,none⟩) t526.length co52)) (v1:=(.slice (some ⟨go52,0,none⟩) t526.length co52)) (ok:=(fun k_=>(P1_ k_∨w.heap.size≤k_))) (zR HO_1.1) hg (.inl rfl)) (blk_grown (g:=gb522) (o:=.cells #[.int .i64 a0_0,.int .i64 a0_1,.int .i64 a0_2,.int .i64 a0_3] 25 (0,0)) (zB BK522.1) hg (Kd.R_ne HO528.1 BK522.1 (by decide))) (hp_) ((by rw [hw];exact below_set (HB.1) GB52.1:Below w0.heap.size w0 w73)) (Kept.of_grown (S:=(fun k_=>P1_ k_)) hg (zK1 HK.1 GW522.1) (fun k_ e_=>(HO528.1.1 k_ e_).1)) ?_;clear HO_1 BK522 HO528 HB HK;intro HO_1 BK522 HO528 HB HK;clear hg hw hp_;have p55:0≤(x7_2:Int):=zo;have q55:(x7_2:Int)<((t526.length:Int):Int):=zo;obtain ⟨hx55_0,hf55_0⟩:=Kd.R_celln 0 HO528.1 (x7_2:Int) p55 q55;replace p55:=eq_true p55;replace q55:=eq_true q55;obtain ⟨hy74_,hz74_⟩:=Kd.R_celln 0 HO528.1 (x7_2:Int) zo zo;have HP74:=Kd.R_putg HO528.1 (x7_2:Int) x6_2)|((with_reducible refine gate_store (t:=2) (p:=87) rfl ?_);refine store_event (t:=2) (p:=87) (v:=?vo_w75) (w1:=(w73.setCell ⟨go52,(x7_2:Int).toNat,none⟩ (.int .i64 x6_2))) ?hg ?ho ?hn ?hr ?_;(case ho=>rfl);(case hg=>rfl);(case hn=>rfl);(case hr=>first|(go_simp;done)|(go_simp;rfl));intro w75 hw;have hg:w73.grownBy w75 (some go52):=(by rw [hw];exact HP74.2);have hp_:Kd.R (Kd.int .i64) 2 w75 w0.heap.size (fun k_=>(P1_ k_∨w.heap.size≤k_)∧some k_≠(.slice Ao70 x1_2.length co70:Value).ownBlock) (.slice (some ⟨go52,0,none⟩) t526.length co52) y530:=(by rw [hw,Ny530.1];exact HP74.1);clear HP74;refine zA5 (Kd.R_after (v:=(.slice (some ⟨go52,0,none⟩) t526.length co52)) (v1:=(.slice (some ⟨go52,0,none⟩) t526.length co52)) (ok:=(fun k_=>(P1_ k_∨w.heap.size≤k_))) (zR HO_1.1) hg (.inl rfl)) (blk_grown (g:=gb522) (o:=.cells #[.int .i64 a0_0,.int .i64 a0_1,.int .i64 a0_2,.int .i64 a0_3] 25 (0,0)) (zB BK522.1) hg (Kd.R_ne HO528.1 BK522.1 (by decide))) (hp_) ((by rw [hw];exact below_set (HB.1) GB52.1:Below w0.heap.size w0 w75)) (Kept.of_grown (S:=(fun k_=>P1_ k_)) hg (zK1 HK.1 GW522.1) (fun k_ e_=>(HO528.1.1 k_ e_).1)) ?_;clear HO_1 BK522 HO528 HB HK;intro HO_1 BK522 HO528 HB HK;clear hg hw hp_;obtain ⟨Z76_0,Z76_1,Z76_2,Z76_3⟩:=zc4 BK522;obtain ⟨V76_0,V76_1,V76_2,V76_3⟩:=zf4 BK522)|((with_reducible refine gate_callee (f:=62) rfl ?_);refine goesL_ (some 90) rfl rfl Tryz.func62 (by kernel_rfl) rfl #[.agg #[.int .i64 a0_0,.int .i64 a0_1,.int .i64 a0_2,.int .i64 a0_3],.slice (some ⟨go52,0,none⟩) y530.length co52] rfl (by (try simp only [List.map_toArray,List.map_cons,List.map_nil]);first|done|(rw [show y530.length=t526.length from (Kd.R_reads' HO528.1).1.symm] <;> rfl)|rfl|(simp only [List.length_drop,List.length_take];rfl)) ?_;(with_reducible refine (spec_l05Matches.calls kj17 a0_0 a0_1 a0_2 a0_3 _ _ y530 true _ ?side1 ?side2 A56.1).mono ?_);(case side1=>repeat (first|exact (Kd.R_reads' HO528.1).2.2|(with_reducible refine Kd.C_alloc ?_ _)|(with_reducible refine Kd.C_drewN ?_ _)|(with_reducible refine Kd.C_drew ?_)));(case side2=>rw [show y530.length=t526.length from (Kd.R_reads' HO528.1).1.symm];exact (Kd.R_reads' HO528.1).2.1);rintro e w77 ⟨rfl,hb⟩;refine ⟨_,rfl,?_⟩;refine zA5 (Kd.R_below (zR HO_1.1) hb) (Kd.R_below (zR HO528.1) hb) (zY BK522.1 hb) (Kept.below (S:=(fun k_=>P1_ k_)) (zK1 HK.1 GW522.1) hb) (below_step (zH1 HB.1 GE522.1) hb) ?_;clear HO_1 HO528 BK522 HK HB;intro HO_1 HO528 BK522 HK HB;(try clear hb);(try clear hk);obtain ⟨Z78_0,Z78_1,Z78_2,Z78_3⟩:=zc4 BK522;obtain ⟨V78_0,V78_1,V78_2,V78_3⟩:=zf4 BK522)|((with_reducible refine gate_callee (f:=48) rfl ?_);refine zL (some 95) Tryz.func48 #[.agg #[.int .i64 a0_0,.int .i64 a0_1,.int .i64 a0_2,.int .i64 a0_3],.slice (some ⟨go52,0,none⟩) t526.length co52] ?_;(with_reducible refine (ih kj17 (by have:=HJ2.1;have:=HK2.1;have:=HJ17.1;omega) a0_0 a0_1 a0_2 a0_3 (fun k_=>some k_=(.slice (some ⟨go52,0,none⟩) t526.length co52:Value).ownBlock) (.slice (some ⟨go52,0,none⟩) t526.length co52) y530 t532 false w0 _ ?side1 ?side2 A58.1).mono ?_);(case side1=>exact zH1 HB.1 GE522.1);(case side2=>exact Kd.R_tight rfl HO528.1);rintro e w79 ⟨v533,rfl,ho0,hb,hkp⟩;refine ⟨_,rfl,?_⟩;refine zA5 (Kd.R_mono (ok':=fun k_=>(P1_ k_∨w.heap.size≤k_)∧some k_≠(v533:Value).ownBlock) (Kd.R_keptB (HO_1.1) hkp (fun k_ hk_ hs_=>(hk_.2) hs_)) (fun k_ hk_=>⟨hk_.1.1,fun e_=>Or.elim (ho0.1 k_ e_.symm) (fun hs_=>hk_.2.1 hs_) (fun hn_=>Nat.not_le.2 hk_.2.2 hn_)⟩)) (blk_kept (zB BK522.1) hkp (fun hs_=>(fun e_=>(Kd.R_ne HO528.1 BK522.1 (by decide)) e_) hs_)) (Kd.R_mono (ok':=fun k_=>(P1_ k_∨w.heap.size≤k_)∧some k_≠(.slice Ao70 x1_2.length co70:Value).ownBlock) ho0 (fun k_ hk_=>⟨Or.elim hk_ (fun hs_=>(HO528.1.1 k_ (hs_).symm).1) (fun hn_=>(.inr (Nat.le_trans (by first|exact HK.1.1|exact (show Kept w _ (fun k_=>P1_ k_) from zK1 HK.1 GW522.1).1) hn_))),Or.elim hk_ (fun hs_=>fun e_=>(((HO_1.1).1 k_ e_.symm).2) hs_) (fun hn_=>(Kd.fresh' (Kd.R_lt (zR HO_1.1)) k_ hn_))⟩)) (Kept.then_ (S:=(fun k_=>P1_ k_)) (zK1 HK.1 GW522.1) hkp (fun k_ hs_=>(fun e_=>(HO528.1.1 k_ e_.symm).1) hs_)) (hb) ?_;clear HO_1 BK522 HK HB HO528;intro HO_1 BK522 HO534 HK HB;(try clear hb);(try clear hkp);(try clear ho0)))
                go_roundg kj17
                case measure=>have:=HJ2.1;have:=HK2.1;have:=HJ17.1;omega
                case rel=>exact ⟨(x1_2),(wrap64 (x7_2+1)),(zF),H',⟨by have:=HJ2.1;have:=HK2.1;have:=HJ17.1;omega⟩,⟨zRm HO_1.1 (fun _ hk=>hk.1)⟩,⟨zB BK522.1⟩,⟨zK1 HK.1 GW522.1⟩,⟨zH1 HB.1 GE522.1⟩⟩
              ·replace c57:=Bool.eq_false_iff.mpr c57
               subst c57
               have H1:(spec_l05Kept.l1 kj17 x1_2 x6_2 (wrap64 (x7_2+1)) a0_0 a0_1 a0_2 a0_3)=some (r1,r2):=by rw [if_neg (show ¬ (false=true) by decide)] at H;exact H
               clear H
               have H:=H1
               clear H1
               have H':=Aside0.mk H
               clear H
               obtain ⟨Ao80,co80,eo80⟩:=Kd.R_slice HO_1.1
               subst eo80
               go_wp2_with (first|((with_reducible refine gate_callee (f:=85) rfl ?_);refine zL (some 79) Tryz.func85 #[.slice Ao80 x1_2.length co80] ?_;(with_reducible refine (spec_l01Own.calls _ _ x1_2 t526 _ ?side1 ?side2 A49.1).mono ?_);(case side1=>repeat (first|exact (Kd.R_reads' HO_1.1).2.2|(with_reducible refine Kd.C_alloc ?_ _)|(with_reducible refine Kd.C_drewN ?_ _)|(with_reducible refine Kd.C_drew ?_)));(case side2=>exact (Kd.R_reads' HO_1.1).2.1);rintro e w81 ⟨v527,rfl,ho0,hb⟩;refine ⟨_,rfl,?_⟩;refine zA5 (Kd.R_elder' (zR HO_1.1) (Kd.R_base ho0) hb) (Kd.R_lower (Kd.R_new' (Kd.R_newM (M:=fun k_=>(P1_ k_∨w.heap.size≤k_)) ho0 (by first|exact HK.1.1|exact (show Kept w _ (fun k_=>P1_ k_) from zK1 HK.1 GW522.1).1) (fun k_ h_=>.inr h_)) (Kd.R_lt (zR HO_1.1))) (below_size (zH1 HB.1 GE522.1))) (zY BK522.1 hb) (Kept.below (S:=(fun k_=>P1_ k_)) (zK1 HK.1 GW522.1) hb) (below_step (zH1 HB.1 GE522.1) hb) ?_;clear HO_1 BK522 HK HB;intro HO_1 HO528 BK522 HK HB;(try clear hb);(try clear hk);(try clear ho0);have p52:0≤(x6_2:Int):=zo;have q52:(x6_2:Int)<((t526.length:Int):Int):=zo;obtain ⟨go52,co52,eo52,gb52,gl52,cl52,HG52⟩:=Kd.R_form HO528.1 (by omega);(first|cases eo52|(injection eo52 with ea_ en_ ec_;(first|subst ea_|(injection ea_ with ea_;subst ea_));subst ec_;clear en_));have GB52:=Aside0.mk gb52;have GG52:=Aside0.mk HG52;clear gb52 gl52 HG52;have HMgo52:=Aside0.mk (show (P1_ go52∨w.heap.size≤go52) from (HO528.1.1 _ rfl).1.1);obtain ⟨hx52_0,hf52_0⟩:=Kd.R_celln 0 HO528.1 (x6_2:Int) p52 q52;replace p52:=eq_true p52;replace q52:=eq_true q52;have n_:=Aside0.mk (Kd.R_mono (ok':=(fun k_=>(P1_ k_∨w.heap.size≤k_)∧some k_≠(.slice Ao80 x1_2.length co80:Value).ownBlock)) HO528.1 (fun k_ hk=>⟨hk.1.1,hk.2⟩));clear HO528;have HO528:=n_;clear n_;obtain ⟨hy82_,hz82_⟩:=Kd.R_celln 0 HO528.1 (x6_2:Int) zo zo;have HP82:=Kd.R_putg HO528.1 (x6_2:Int) x7_2)|((with_reducible refine gate_store (t:=2) (p:=83) rfl ?_);refine store_event (t:=2) (p:=83) (v:=?vo_w83) (w1:=(w81.setCell ⟨go52,(x6_2:Int).toNat,none⟩ (.int .i64 x7_2))) ?hg ?ho ?hn ?hr ?_;(case ho=>rfl);(case hg=>rfl);(case hn=>rfl);(case hr=>first|(go_simp;done)|(go_simp;rfl));intro w83 hw;have hg:w81.grownBy w83 (some go52):=(by rw [hw];exact HP82.2);have hp_:Kd.R (Kd.int .i64) 2 w83 w0.heap.size (fun k_=>(P1_ k_∨w.heap.size≤k_)∧some k_≠(.slice Ao80 x1_2.length co80:Value).ownBlock) (.slice (some ⟨go52,0,none⟩) t526.length co52) y529:=(by rw [hw,Ny529.1];exact HP82.1);clear HP82;refine zA5 (Kd.R_after (v:=(.slice (some ⟨go52,0,none⟩) t526.length co52)) (v1:=(.slice (some ⟨go52,0,none⟩) t526.length co52)) (ok:=(fun k_=>(P1_ k_∨w.heap.size≤k_))) (zR HO_1.1) hg (.inl rfl)) (blk_grown (g:=gb522) (o:=.cells #[.int .i64 a0_0,.int .i64 a0_1,.int .i64 a0_2,.int .i64 a0_3] 25 (0,0)) (zB BK522.1) hg (Kd.R_ne HO528.1 BK522.1 (by decide))) (hp_) ((by rw [hw];exact below_set (HB.1) GB52.1:Below w0.heap.size w0 w83)) (Kept.of_grown (S:=(fun k_=>P1_ k_)) hg (zK1 HK.1 GW522.1) (fun k_ e_=>(HO528.1.1 k_ e_).1)) ?_;clear HO_1 BK522 HO528 HB HK;intro HO_1 BK522 HO528 HB HK;clear hg hw hp_;have p55:0≤(x7_2:Int):=zo;have q55:(x7_2:Int)<((t526.length:Int):Int):=zo;obtain ⟨hx55_0,hf55_0⟩:=Kd.R_celln 0 HO528.1 (x7_2:Int) p55 q55;replace p55:=eq_true p55;replace q55:=eq_true q55;obtain ⟨hy84_,hz84_⟩:=Kd.R_celln 0 HO528.1 (x7_2:Int) zo zo;have HP84:=Kd.R_putg HO528.1 (x7_2:Int) x6_2)|((with_reducible refine gate_store (t:=2) (p:=87) rfl ?_);refine store_event (t:=2) (p:=87) (v:=?vo_w85) (w1:=(w83.setCell ⟨go52,(x7_2:Int).toNat,none⟩ (.int .i64 x6_2))) ?hg ?ho ?hn ?hr ?_;(case ho=>rfl);(case hg=>rfl);(case hn=>rfl);(case hr=>first|(go_simp;done)|(go_simp;rfl));intro w85 hw;have hg:w83.grownBy w85 (some go52):=(by rw [hw];exact HP84.2);have hp_:Kd.R (Kd.int .i64) 2 w85 w0.heap.size (fun k_=>(P1_ k_∨w.heap.size≤k_)∧some k_≠(.slice Ao80 x1_2.length co80:Value).ownBlock) (.slice (some ⟨go52,0,none⟩) t526.length co52) y530:=(by rw [hw,Ny530.1];exact HP84.1);clear HP84;refine zA5 (Kd.R_after (v:=(.slice (some ⟨go52,0,none⟩) t526.length co52)) (v1:=(.slice (some ⟨go52,0,none⟩) t526.length co52)) (ok:=(fun k_=>(P1_ k_∨w.heap.size≤k_))) (zR HO_1.1) hg (.inl rfl)) (blk_grown (g:=gb522) (o:=.cells #[.int .i64 a0_0,.int .i64 a0_1,.int .i64 a0_2,.int .i64 a0_3] 25 (0,0)) (zB BK522.1) hg (Kd.R_ne HO528.1 BK522.1 (by decide))) (hp_) ((by rw [hw];exact below_set (HB.1) GB52.1:Below w0.heap.size w0 w85)) (Kept.of_grown (S:=(fun k_=>P1_ k_)) hg (zK1 HK.1 GW522.1) (fun k_ e_=>(HO528.1.1 k_ e_).1)) ?_;clear HO_1 BK522 HO528 HB HK;intro HO_1 BK522 HO528 HB HK;clear hg hw hp_;obtain ⟨Z86_0,Z86_1,Z86_2,Z86_3⟩:=zc4 BK522;obtain ⟨V86_0,V86_1,V86_2,V86_3⟩:=zf4 BK522)|((with_reducible refine gate_callee (f:=62) rfl ?_);refine goesL_ (some 90) rfl rfl Tryz.func62 (by kernel_rfl) rfl #[.agg #[.int .i64 a0_0,.int .i64 a0_1,.int .i64 a0_2,.int .i64 a0_3],.slice (some ⟨go52,0,none⟩) y530.length co52] rfl (by (try simp only [List.map_toArray,List.map_cons,List.map_nil]);first|done|(rw [show y530.length=t526.length from (Kd.R_reads' HO528.1).1.symm] <;> rfl)|rfl|(simp only [List.length_drop,List.length_take];rfl)) ?_;(with_reducible refine (spec_l05Matches.calls kj17 a0_0 a0_1 a0_2 a0_3 _ _ y530 false _ ?side1 ?side2 A56.1).mono ?_);(case side1=>repeat (first|exact (Kd.R_reads' HO528.1).2.2|(with_reducible refine Kd.C_alloc ?_ _)|(with_reducible refine Kd.C_drewN ?_ _)|(with_reducible refine Kd.C_drew ?_)));(case side2=>rw [show y530.length=t526.length from (Kd.R_reads' HO528.1).1.symm];exact (Kd.R_reads' HO528.1).2.1);rintro e w87 ⟨rfl,hb⟩;refine ⟨_,rfl,?_⟩;refine zA5 (Kd.R_below (zR HO_1.1) hb) (Kd.R_below (zR HO528.1) hb) (zY BK522.1 hb) (Kept.below (S:=(fun k_=>P1_ k_)) (zK1 HK.1 GW522.1) hb) (below_step (zH1 HB.1 GE522.1) hb) ?_;clear HO_1 HO528 BK522 HK HB;intro HO_1 HO528 BK522 HK HB;(try clear hb);(try clear hk)))
               go_roundg kj17
               case measure=>have:=HJ2.1;have:=HK2.1;have:=HJ17.1;omega
               case rel=>exact ⟨(x1_2),(wrap64 (x7_2+1)),(zF),H',⟨by have:=HJ2.1;have:=HK2.1;have:=HJ17.1;omega⟩,⟨zRm HO_1.1 (fun _ hk=>hk.1)⟩,⟨zB BK522.1⟩,⟨zK1 HK.1 GW522.1⟩,⟨zH1 HB.1 GE522.1⟩⟩
             ·rw [if_neg c54] at H
              exact absurd H (by simp)
            ·rw [if_neg c53] at H
             exact absurd H (by simp)
           ·rw [if_neg c51] at H
            exact absurd H (by simp)
          ·rw [if_neg c50] at H
           exact absurd H (by simp)
      ·rw [if_neg c17] at H
       have c17b0:=decide_eq_false c17
       clear c17
       simp only [Option.some.injEq,Prod.mk.injEq] at H
       obtain ⟨rfl,rfl⟩:=H
       obtain ⟨Z88_0,Z88_1,Z88_2,Z88_3⟩:=zc4 BK522
       obtain ⟨V88_0,V88_1,V88_2,V88_3⟩:=zf4 BK522
       go_wp2
       go_ret2
       exact ⟨_,zE,by first|exact Kd.R_nil _ _ _ _ _|exact Kd.N_nil _ _ _ _ _|exact Kd.V_nil _ _ _ _ _|exact Kd.Q_nil _ _ _ _ _|exact Kd.S_nil _ _ _ _ _,zH1 HB.1 GE522.1,zK1 HK.1 GW522.1⟩
def spec_FindKept.l0:Nat→List Int→Int→Int→Int→Int→Int→Option (List Int×Int)
 |0,_,_,_,_,_,_=>none
 |k+1,x4,x5,x537000,x537001,x537002,x537003=>if x5<x537000 then (if x4.length<17592186044416 then (spec_FindKept.l0 k (x4++[(-1)]) (wrap64 (x5+1)) x537000 x537001 x537002 x537003) else (none)) else ((spec_l05Kept.f k x537000 x537001 x537002 x537003 x4).bind fun bt544=>(if bt544.2=true then (some (bt544.1,0)) else (some (([]:List Int),4))))
def spec_FindKept.f (k:Nat) (a0_0:Int) (a0_1:Int) (a0_2:Int) (a0_3:Int):Option (List Int×Int):=(spec_l05Is.f a0_0 a0_1 a0_2 a0_3).bind fun t537=>(if t537=true then (spec_FindKept.l0 k (([]:List Int)) 0 a0_0 a0_1 a0_2 a0_3) else (some (([]:List Int),1)))
theorem spec_FindKept.calls (k:Nat) (a0_0:Int) (a0_1:Int) (a0_2:Int) (a0_3:Int) (r1:List Int) (r2:Int) (w:World) (h:spec_FindKept.f k a0_0 a0_1 a0_2 a0_3=some (r1,r2)):
 Calls Tryz.prog 17 #[.agg #[.int .i64 a0_0,.int .i64 a0_1,.int .i64 a0_2,.int .i64 a0_3]] w fun e w'=>∃ v0_:Value,e=.returned (.tuple #[v0_,.int .i64 r2])∧Kd.R (Kd.int .i64) 2 w' w.heap.size (fun _=>True) v0_ r1∧Below w.heap.size w w':=by
 have hu25:=Tryz.underlying25
 have HB:=Aside0.mk (Below.refl w.heap.size w)
 have H:((spec_l05Is.f a0_0 a0_1 a0_2 a0_3).bind fun t537=>(if t537=true then (spec_FindKept.l0 k (([]:List Int)) 0 a0_0 a0_1 a0_2 a0_3) else (some (([]:List Int),1))))=some (r1,r2):=h
 clear h
 obtain ⟨t537,A2,H⟩:=zb H
 by_cases c3:t537=true
 ·subst c3
  have H1:(spec_FindKept.l0 k (([]:List Int)) 0 a0_0 a0_1 a0_2 a0_3)=some (r1,r2):=by rw [if_pos rfl] at H;exact H
  clear H
  have H:=H1
  clear H1
  obtain ⟨y538,hy538⟩:∃ y_:List Int,y_=(([]:List Int)):=⟨_,rfl⟩
  replace H:(spec_FindKept.l0 k y538 0 a0_0 a0_1 a0_2 a0_3)=some (r1,r2):=by first|(rw [hy538];with_reducible exact H)|(have H2_:=(Option.bind_some _ _).symm.trans H;rw [hy538];with_reducible exact H2_)|(have H2_:=(Option.bind_some _ _).symm.trans H;with_reducible exact H2_)|with_reducible exact H|(rw [hy538];exact H)|exact H
  have Ny538:=Aside0.mk hy538
  clear hy538
  have H':=Aside0.mk H
  clear H
  go_enter Tryz.func17,Tryz.ntmps17
  go_wp2_with (first|((with_reducible refine gate_dst (N:=1) rfl ?_);refine zX 1 #[.int .i64 a0_0,.int .i64 a0_1,.int .i64 a0_2,.int .i64 a0_3] 25 ?_;intro gb536 hg w4 hbox hb;refine zA4 (below_step (zH HB.1) hb) (hbox) (zs hg HB:w.heap.size≤gb536) (zs hg HB:w.heap.size≤gb536) ?_;clear HB;intro HB BK536 GW536 GE536;clear hb hbox hg;obtain ⟨Z5_0,Z5_1,Z5_2,Z5_3⟩:=zc4 BK536;obtain ⟨V5_0,V5_1,V5_2,V5_3⟩:=zf4 BK536)|((with_reducible refine gate_callee (f:=47) rfl ?_);refine zL (some 9) Tryz.func47 #[.agg #[.int .i64 a0_0,.int .i64 a0_1,.int .i64 a0_2,.int .i64 a0_3]] ?_;(with_reducible refine (spec_l05Is.calls a0_0 a0_1 a0_2 a0_3 true _ A2.1).mono ?_);rintro e w6 ⟨rfl,hb⟩;refine ⟨_,rfl,?_⟩;refine zA2 (zY BK536.1 hb) (below_step (zH1 HB.1 GE536.1) hb) ?_;clear BK536 HB;intro BK536 HB;(try clear hb);(try clear hk))|((with_reducible refine gate_dst (N:=11) rfl ?_);refine Kd.R_lit (Kd.int .i64) _ 2 ?hg (N:=11) ?hd (xs:=([]:List Int)) (inner:=[]) (ok:=fun _=>True) (okp:=fun _=>True) ?hr ?hp (fun _ hk=>hk) trivial (Below.refl _ _) (Nat.le_refl _) (by simp) ?_;(case hd=>rfl);(case hg=>rfl);(case hr=>first|(go_simp;done)|(go_simp;rfl));(case hp=>exact (Reps.none _ _));intro v539 w7 ho8 hb hg_ hnew_;clear hg_ hnew_;(first|rw [← Ny538.1] at ho8|(simp only [Int.reduceToNat] at ho8;rw [← Ny538.1] at ho8));refine zA3 (Kd.R_lower ho8 (below_size (zH1 HB.1 GE536.1))) (zY BK536.1 hb) (below_step (zH1 HB.1 GE536.1) hb) ?_;clear BK536 HB;intro HO540 BK536 HB;clear hb ho8))
  go_loopg [4,5] k (fun kq v4 v5 w'=>∃ (x4_1:List Int) (x5_1:Int),v5=.int .i64 x5_1∧Aside0 (spec_FindKept.l0 kq x4_1 x5_1 a0_0 a0_1 a0_2 a0_3=some (r1,r2))∧Aside0 (kq≤k)∧Aside0 (Kd.R (Kd.int .i64) 2 w' w.heap.size (fun _=>True) v4 x4_1)∧Aside0 (w'.heap[gb536]?=some (.cells #[.int .i64 a0_0,.int .i64 a0_1,.int .i64 a0_2,.int .i64 a0_3] 25 (0,0)))∧Aside0 (Below w.heap.size w w'))
  case atStart=>exact ⟨(y538),(0),(zF),H',⟨Nat.le_refl _⟩,⟨zR HO540.1⟩,⟨zB BK536.1⟩,⟨zH1 HB.1 GE536.1⟩⟩
  case round=>
   clear H'
   try clear c1
   try clear p2
   try clear c3
   try clear c4
   try clear Z5_0 Z5_1 Z5_2 Z5_3 V5_0 V5_1 V5_2 V5_3
   obtain ⟨x4_1,x5_1,rfl,HA,HK1,HO_4,BK536,HB⟩:=hrel
   cases gk with
   |zero=>exact absurd HA.1 (by simp [spec_FindKept.l0])
   |succ k1=>
    have H:=HA.1
    clear HA
    simp only [spec_FindKept.l0] at H
    by_cases c9:x5_1<a0_0
    ·rw [if_pos c9] at H
     have c9b0:=decide_eq_true c9
     clear c9
     by_cases c10:x4_1.length<17592186044416
     ·rw [if_pos c10] at H
      have LMc10:=Aside0.mk c10
      clear c10
      obtain ⟨y541,hy541⟩:∃ y_:List Int,y_=(x4_1++[(-1)]):=⟨_,rfl⟩
      replace H:(spec_FindKept.l0 k1 y541 (wrap64 (x5_1+1)) a0_0 a0_1 a0_2 a0_3)=some (r1,r2):=by first|(rw [hy541];with_reducible exact H)|(have H2_:=(Option.bind_some _ _).symm.trans H;rw [hy541];with_reducible exact H2_)|(have H2_:=(Option.bind_some _ _).symm.trans H;with_reducible exact H2_)|with_reducible exact H|(rw [hy541];exact H)|exact H
      have Ny541:=Aside0.mk hy541
      clear hy541
      have H':=Aside0.mk H
      clear H
      obtain ⟨Z11_0,Z11_1,Z11_2,Z11_3⟩:=zc4 BK536
      obtain ⟨V11_0,V11_1,V11_2,V11_3⟩:=zf4 BK536
      go_wp2_with (first|((with_reducible refine gate_builtin (b:=.append) (xs:=#[.tmp 18,.tmp 19]) rfl ?_);at_builtin;refine Kd.R_append (Kd.int .i64) (w0:=w) w.heap.size rfl (.tmp 18) (.tmp 19) 28 2 (.int .i64 0) 8 rfl Tryz.underlying28 info2 rfl (by decide) (by omega) u4 x4_1 (-1) [.int .i64 (-1)] (fun _=>True) (fun _=>False) rfl rfl ?aP (fun _ hk=>hk.elim) ?aF ?aO ?aB ?aS ?aL ?_;(case aP=>exact rfl);(case aB=>exact (zH1 HB.1 GE536.1));(case aF=>exact (fun _ _=>trivial));(case aO=>exact (zR HO_4.1));(case aS=>exact (below_size (zH1 HB.1 GE536.1)));(case aL=>have:=LMc10.1;omega);intro v542 w12 ho hb hg hat;rw [← Ny541.1] at ho;refine zA3 (blk_grown (g:=gb536) (o:=.cells #[.int .i64 a0_0,.int .i64 a0_1,.int .i64 a0_2,.int .i64 a0_3] 25 (0,0)) (zB BK536.1) hg (Kd.R_ne HO_4.1 BK536.1 (by decide))) (hb) (ho) ?_;clear BK536 HB HO_4;intro BK536 HB HO543;clear ho hb hg hat))
      go_roundg k1
      case measure=>have:=HK1.1;omega
      case rel=>exact ⟨(y541),(wrap64 (x5_1+1)),(zF),H',⟨by have:=HK1.1;omega⟩,⟨zR HO543.1⟩,⟨zB BK536.1⟩,⟨zH1 HB.1 GE536.1⟩⟩
     ·rw [if_neg c10] at H
      exact absurd H (by simp)
    ·rw [if_neg c9] at H
     have c9b0:=decide_eq_false c9
     clear c9
     obtain ⟨⟨t544,t547⟩,A13,H⟩:=zb H;(try dsimp only at H)
     by_cases c14:t547=true
     ·subst c14
      have H1:(some (t544,0))=some (r1,r2):=by rw [if_pos rfl] at H;exact H
      clear H
      have H:=H1
      clear H1
      simp only [Option.some.injEq,Prod.mk.injEq] at H
      obtain ⟨rfl,rfl⟩:=H
      obtain ⟨Z15_0,Z15_1,Z15_2,Z15_3⟩:=zc4 BK536
      obtain ⟨V15_0,V15_1,V15_2,V15_3⟩:=zf4 BK536
      obtain ⟨Ao16,co16,eo16⟩:=Kd.R_slice HO_4.1
      subst eo16
      go_wp2_with (first|((with_reducible refine gate_callee (f:=48) rfl ?_);refine zL (some 24) Tryz.func48 #[.agg #[.int .i64 a0_0,.int .i64 a0_1,.int .i64 a0_2,.int .i64 a0_3],.slice Ao16 x4_1.length co16] ?_;(with_reducible refine (spec_l05Kept.calls k1 a0_0 a0_1 a0_2 a0_3 (fun k_=>some k_=(.slice Ao16 x4_1.length co16:Value).ownBlock) (.slice Ao16 x4_1.length co16) x4_1 t544 true w _ ?side1 ?side2 A13.1).mono ?_);(case side1=>exact zH1 HB.1 GE536.1);(case side2=>exact Kd.R_tight rfl HO_4.1);rintro e w17 ⟨v545,rfl,ho0,hb,hkp⟩;refine ⟨_,rfl,?_⟩;refine zA3 (blk_kept (zB BK536.1) hkp (fun hs_=>(fun e_=>(Kd.R_ne HO_4.1 BK536.1 (by decide)) e_) hs_)) (Kd.R_mono (ok':=fun k_=>True) ho0 (fun k_ hk_=>trivial)) (hb) ?_;clear BK536 HB HO_4;intro BK536 HO546 HB;(try clear hb);(try clear hkp);(try clear ho0)))
      go_ret2
      exact ⟨_,zE,by (with_reducible repeat (first|apply Kd.R_alloc|apply Kd.R_drewN|apply Kd.R_drew));exact HO546.1,zH1 HB.1 GE536.1⟩
     ·replace c14:=Bool.eq_false_iff.mpr c14
      subst c14
      have H1:(some (([]:List Int),4))=some (r1,r2):=by rw [if_neg (show ¬ (false=true) by decide)] at H;exact H
      clear H
      have H:=H1
      clear H1
      simp only [Option.some.injEq,Prod.mk.injEq] at H
      obtain ⟨rfl,rfl⟩:=H
      obtain ⟨Z18_0,Z18_1,Z18_2,Z18_3⟩:=zc4 BK536
      obtain ⟨V18_0,V18_1,V18_2,V18_3⟩:=zf4 BK536
      obtain ⟨Ao19,co19,eo19⟩:=Kd.R_slice HO_4.1
      subst eo19
      go_wp2_with (first|((with_reducible refine gate_callee (f:=48) rfl ?_);refine zL (some 24) Tryz.func48 #[.agg #[.int .i64 a0_0,.int .i64 a0_1,.int .i64 a0_2,.int .i64 a0_3],.slice Ao19 x4_1.length co19] ?_;(with_reducible refine (spec_l05Kept.calls k1 a0_0 a0_1 a0_2 a0_3 (fun k_=>some k_=(.slice Ao19 x4_1.length co19:Value).ownBlock) (.slice Ao19 x4_1.length co19) x4_1 t544 false w _ ?side1 ?side2 A13.1).mono ?_);(case side1=>exact zH1 HB.1 GE536.1);(case side2=>exact Kd.R_tight rfl HO_4.1);rintro e w20 ⟨v545,rfl,ho0,hb,hkp⟩;refine ⟨_,rfl,?_⟩;refine zA3 (blk_kept (zB BK536.1) hkp (fun hs_=>(fun e_=>(Kd.R_ne HO_4.1 BK536.1 (by decide)) e_) hs_)) (Kd.R_mono (ok':=fun k_=>True) ho0 (fun k_ hk_=>trivial)) (hb) ?_;clear BK536 HB HO_4;intro BK536 HO546 HB;(try clear hb);(try clear hkp);(try clear ho0)))
      go_ret2
      exact ⟨_,zE,by first|exact Kd.R_nil _ _ _ _ _|exact Kd.N_nil _ _ _ _ _|exact Kd.V_nil _ _ _ _ _|exact Kd.Q_nil _ _ _ _ _|exact Kd.S_nil _ _ _ _ _,zH1 HB.1 GE536.1⟩
 ·replace c3:=Bool.eq_false_iff.mpr c3
  subst c3
  have H1:(some (([]:List Int),1))=some (r1,r2):=by rw [if_neg (show ¬ (false=true) by decide)] at H;exact H
  clear H
  have H:=H1
  clear H1
  simp only [Option.some.injEq,Prod.mk.injEq] at H
  obtain ⟨rfl,rfl⟩:=H
  go_enter Tryz.func17,Tryz.ntmps17
  go_wp2_with (first|((with_reducible refine gate_dst (N:=1) rfl ?_);refine zX 1 #[.int .i64 a0_0,.int .i64 a0_1,.int .i64 a0_2,.int .i64 a0_3] 25 ?_;intro gb536 hg w21 hbox hb;refine zA4 (below_step (zH HB.1) hb) (hbox) (zs hg HB:w.heap.size≤gb536) (zs hg HB:w.heap.size≤gb536) ?_;clear HB;intro HB BK536 GW536 GE536;clear hb hbox hg;obtain ⟨Z22_0,Z22_1,Z22_2,Z22_3⟩:=zc4 BK536;obtain ⟨V22_0,V22_1,V22_2,V22_3⟩:=zf4 BK536)|((with_reducible refine gate_callee (f:=47) rfl ?_);refine zL (some 9) Tryz.func47 #[.agg #[.int .i64 a0_0,.int .i64 a0_1,.int .i64 a0_2,.int .i64 a0_3]] ?_;(with_reducible refine (spec_l05Is.calls a0_0 a0_1 a0_2 a0_3 false _ A2.1).mono ?_);rintro e w23 ⟨rfl,hb⟩;refine ⟨_,rfl,?_⟩;refine zA2 (zY BK536.1 hb) (below_step (zH1 HB.1 GE536.1) hb) ?_;clear BK536 HB;intro BK536 HB;(try clear hb)))
  go_ret2
  exact ⟨_,zE,by first|exact Kd.R_nil _ _ _ _ _|exact Kd.N_nil _ _ _ _ _|exact Kd.V_nil _ _ _ _ _|exact Kd.Q_nil _ _ _ _ _|exact Kd.S_nil _ _ _ _ _,zH1 HB.1 GE536.1⟩
def impl_size_int64_51.f (l0:List Int):Option (Int):=some (l0.length:Int)
theorem impl_size_int64_51.calls (A0:Option Addr) (c0:Nat) (l0:List Int) (r:Int) (w:World) (hr0:Kd.C (Kd.int .i64) w A0 l0.length l0) (hc0:l0.length≤c0) (h:impl_size_int64_51.f l0=some r):
 Calls Tryz.prog 51 #[.slice A0 l0.length c0] w fun e w'=>e=.returned (.int .i64 r)∧Drawn0 w w':=by
 have HR0:=Aside0.mk hr0
 have HC0:=Aside0.mk hc0
 clear hr0 hc0
 have H:(some (l0.length:Int))=some r:=h
 clear h
 obtain rfl:=Option.some.inj H
 go_enter Tryz.func51,Tryz.ntmps51
 go_wp2
 go_ret
 exact ⟨zF,zD⟩
def impl_isRising.l0:Nat→List Int→Int→Int→List Int→Int→Int→Option (Bool)
 |0,_,_,_,_,_,_=>none
 |k+1,x0,x1,x2,x9,x10,x11=>if x11<x10 then (if 0≤x11 then (if x11<(x9.length:Int) then ((impl_within.f (rd x9 x11) x1 x2).bind fun t549=>(if t549=true then (if x11>0 then (if 0≤(wrap64 (x11-1)) then (if (wrap64 (x11-1))<(x0.length:Int) then (if (rd x9 x11)≤(rd x0 (wrap64 (x11-1))) then (some false) else (impl_isRising.l0 k x0 x1 x2 x9 x10 (wrap64 (x11+1)))) else (none)) else (none)) else (impl_isRising.l0 k x0 x1 x2 x9 x10 (wrap64 (x11+1)))) else (some false))) else (none)) else (none)) else (some true)
def impl_isRising.f (k:Nat) (l0:List Int) (a1:Int) (a2:Int):Option (Bool):=impl_isRising.l0 k l0 a1 a2 l0 (l0.length:Int) 0
theorem impl_isRising.mono_l:∀ k,(∀ y0 y1 y2 y3 y4 y5,LeO (impl_isRising.l0 k y0 y1 y2 y3 y4 y5) (impl_isRising.l0 (k+1) y0 y1 y2 y3 y4 y5))
 |0=>fun _ _ _ _ _ _ r h=>by simp [impl_isRising.l0] at h
 |k+1=>by
  have ih0:=impl_isRising.mono_l k
  ·intro y0 y1 y2 y3 y4 y5
   unfold impl_isRising.l0
   exact zO
theorem impl_isRising.mono:∀ a0 a1 a2 k,LeO (impl_isRising.f k a0 a1 a2) (impl_isRising.f (k+1) a0 a1 a2):=by
 intro a0 a1 a2 k
 have ih0:=impl_isRising.mono_l k
 unfold impl_isRising.f
 exact zO
theorem impl_isRising.calls (k:Nat) (A0:Option Addr) (c0:Nat) (l0:List Int) (a1:Int) (a2:Int) (r:Bool) (w:World) (hr0:Kd.C (Kd.int .i64) w A0 l0.length l0) (hc0:l0.length≤c0) (h:impl_isRising.f k l0 a1 a2=some r):
 Calls Tryz.prog 52 #[.slice A0 l0.length c0,.int .i64 a1,.int .i64 a2] w fun e w'=>e=.returned (.bool r)∧Drawn0 w w':=by
 have HR0:=Aside0.mk hr0
 have HC0:=Aside0.mk hc0
 clear hr0 hc0
 have H:(impl_isRising.l0 k l0 a1 a2 l0 (l0.length:Int) 0)=some r:=h
 clear h
 have H':=Aside0.mk H
 clear H
 go_enter Tryz.func52,Tryz.ntmps52
 go_wp2
 go_loopg [11] k (fun kq v11 w'=>∃ (x11_1:Int),v11=.int .i64 x11_1∧Aside0 (impl_isRising.l0 kq l0 a1 a2 l0 (l0.length:Int) x11_1=some r)∧Aside0 (kq≤k)∧Drawn0 w w')
 case atStart=>exact ⟨(0),(zF),H',⟨Nat.le_refl _⟩,zD⟩
 case round=>
  clear H'
  try clear p2
  obtain ⟨x11_1,rfl,HA,HK1,⟨m1,rfl⟩⟩:=hrel
  cases gk with
  |zero=>exact absurd HA.1 (by simp [impl_isRising.l0])
  |succ k1=>
   have H:=HA.1
   clear HA
   simp only [impl_isRising.l0] at H
   by_cases c4:x11_1<(l0.length:Int)
   ·rw [if_pos c4] at H
    have c4b0:=decide_eq_true c4
    clear c4
    by_cases c5:0≤x11_1
    ·rw [if_pos c5] at H
     have c5b0:=decide_eq_true c5
     clear c5
     by_cases c6:x11_1<(l0.length:Int)
     ·rw [if_pos c6] at H
      have c6b0:=decide_eq_true c6
      clear c6
      obtain ⟨t549,A7,H⟩:=zb H
      by_cases c8:t549=true
      ·subst c8
       have H1:(if x11_1>0 then (if 0≤(wrap64 (x11_1-1)) then (if (wrap64 (x11_1-1))<(l0.length:Int) then (if (rd l0 x11_1)≤(rd l0 (wrap64 (x11_1-1))) then (some false) else (impl_isRising.l0 k1 l0 a1 a2 l0 (l0.length:Int) (wrap64 (x11_1+1)))) else (none)) else (none)) else (impl_isRising.l0 k1 l0 a1 a2 l0 (l0.length:Int) (wrap64 (x11_1+1))))=some r:=by rw [if_pos rfl] at H;exact H
       clear H
       have H:=H1
       clear H1
       by_cases c9:x11_1>0
       ·rw [if_pos c9] at H
        have c9b0:=decide_eq_true c9
        clear c9
        obtain ⟨ji10,hji10⟩:=zj (wrap64 (x11_1-1))
        (first|rw [hji10] at H|simp only [hji10] at H)
        (try rw [hji10] at A7)
        have hji10w:(IntKind.i64.wrap (x11_1-1))=ji10:=(i64_w _).trans hji10
        by_cases c11:0≤(ji10)
        ·rw [if_pos c11] at H
         have c11b0:=decide_eq_true c11
         clear c11
         by_cases c12:(ji10)<(l0.length:Int)
         ·rw [if_pos c12] at H
          have c12b0:=decide_eq_true c12
          clear c12
          by_cases c13:(rd l0 x11_1)≤(rd l0 (ji10))
          ·rw [if_pos c13] at H
           have c13b0:=decide_eq_true c13
           clear c13
           obtain rfl:=Option.some.inj H
           have p548:0≤(x11_1:Int):=zo
           have q548:x11_1<(l0.length:Int):=zo
           obtain ⟨ad548,e548,hx548_0⟩:=Kd.at_int HR0.1 x11_1 p548 q548
           cases e548
           replace p548:=eq_true p548
           replace q548:=eq_true q548
           go_wp2_with (first|((with_reducible refine gate_callee (f:=39) rfl ?_);refine zL (some 19) Tryz.func39 #[.int .i64 (rd l0 x11_1),.int .i64 a1,.int .i64 a2] ?_;(with_reducible refine (impl_within.calls (rd l0 x11_1) a1 a2 true _ A7.1).mono ?_);rintro e w' ⟨rfl,⟨nd,rfl⟩⟩;refine ⟨_,rfl,?_⟩;have p550:0≤((ji10):Int):=zo;have q550:(ji10)<(l0.length:Int):=zo;obtain ⟨ad550,e550,hx550_0⟩:=Kd.at_int HR0.1 (ji10) p550 q550;obtain rfl:ad548=ad550:=(by injection e550);replace p550:=eq_true p550;replace q550:=eq_true q550))
           go_ret
           exact ⟨by first|rfl|(simp;done)|(simp only [← hji10] <;> (first|rfl|simp))|(simp [*];done),zD⟩
          ·rw [if_neg c13] at H
           have c13b0:=decide_eq_false c13
           clear c13
           have H':=Aside0.mk H
           clear H
           have p548:0≤(x11_1:Int):=zo
           have q548:x11_1<(l0.length:Int):=zo
           obtain ⟨ad548,e548,hx548_0⟩:=Kd.at_int HR0.1 x11_1 p548 q548
           cases e548
           replace p548:=eq_true p548
           replace q548:=eq_true q548
           go_wp2_with (first|((with_reducible refine gate_callee (f:=39) rfl ?_);refine zL (some 19) Tryz.func39 #[.int .i64 (rd l0 x11_1),.int .i64 a1,.int .i64 a2] ?_;(with_reducible refine (impl_within.calls (rd l0 x11_1) a1 a2 true _ A7.1).mono ?_);rintro e w' ⟨rfl,⟨nd,rfl⟩⟩;refine ⟨_,rfl,?_⟩;have p550:0≤((ji10):Int):=zo;have q550:(ji10)<(l0.length:Int):=zo;obtain ⟨ad550,e550,hx550_0⟩:=Kd.at_int HR0.1 (ji10) p550 q550;obtain rfl:ad548=ad550:=(by injection e550);replace p550:=eq_true p550;replace q550:=eq_true q550))
           go_roundg k1
           case measure=>have:=HK1.1;omega
           case rel=>exact ⟨(wrap64 (x11_1+1)),(zF),H',⟨by have:=HK1.1;omega⟩,zD⟩
         ·rw [if_neg c12] at H
          exact absurd H (by simp)
        ·rw [if_neg c11] at H
         exact absurd H (by simp)
       ·rw [if_neg c9] at H
        have c9b0:=decide_eq_false c9
        clear c9
        have H':=Aside0.mk H
        clear H
        have p548:0≤(x11_1:Int):=zo
        have q548:x11_1<(l0.length:Int):=zo
        obtain ⟨ad548,e548,hx548_0⟩:=Kd.at_int HR0.1 x11_1 p548 q548
        cases e548
        replace p548:=eq_true p548
        replace q548:=eq_true q548
        go_wp2_with (first|((with_reducible refine gate_callee (f:=39) rfl ?_);refine zL (some 19) Tryz.func39 #[.int .i64 (rd l0 x11_1),.int .i64 a1,.int .i64 a2] ?_;(with_reducible refine (impl_within.calls (rd l0 x11_1) a1 a2 true _ A7.1).mono ?_);rintro e w' ⟨rfl,⟨nd,rfl⟩⟩;refine ⟨_,rfl,?_⟩))
        go_roundg k1
        case measure=>have:=HK1.1;omega
        case rel=>exact ⟨(wrap64 (x11_1+1)),(zF),H',⟨by have:=HK1.1;omega⟩,zD⟩
      ·replace c8:=Bool.eq_false_iff.mpr c8
       subst c8
       have H1:(some false)=some r:=by rw [if_neg (show ¬ (false=true) by decide)] at H;exact H
       clear H
       have H:=H1
       clear H1
       obtain rfl:=Option.some.inj H
       have p548:0≤(x11_1:Int):=zo
       have q548:x11_1<(l0.length:Int):=zo
       obtain ⟨ad548,e548,hx548_0⟩:=Kd.at_int HR0.1 x11_1 p548 q548
       cases e548
       replace p548:=eq_true p548
       replace q548:=eq_true q548
       go_wp2_with (first|((with_reducible refine gate_callee (f:=39) rfl ?_);refine zL (some 19) Tryz.func39 #[.int .i64 (rd l0 x11_1),.int .i64 a1,.int .i64 a2] ?_;(with_reducible refine (impl_within.calls (rd l0 x11_1) a1 a2 false _ A7.1).mono ?_);rintro e w' ⟨rfl,⟨nd,rfl⟩⟩;refine ⟨_,rfl,?_⟩))
       go_ret
       exact ⟨zF,zD⟩
     ·rw [if_neg c6] at H
      exact absurd H (by simp)
    ·rw [if_neg c5] at H
     exact absurd H (by simp)
   ·rw [if_neg c4] at H
    have c4b0:=decide_eq_false c4
    clear c4
    obtain rfl:=Option.some.inj H
    go_wp2
    go_ret
    exact ⟨zF,zD⟩
mutual
def impl_HeapGame.j0:Nat→Int→List Int→Bool→Option ((List (List Int))×Int)
 |0,_,_,_=>none
 |k+1,x0,x1,x18=>if x18=true then (some (([]:List (List Int)),2)) else (impl_HeapGame.l0 k x0 x1 (wrap64 (x0+1)) 0 ([]:List (List Int)))
def impl_HeapGame.l0:Nat→Int→List Int→Int→Int→List (List Int)→Option ((List (List Int))×Int)
 |0,_,_,_,_,_=>none
 |k+1,x0,x1,x22,x23,x555000=>if x23<x22 then (impl_HeapGame.l1 k x0 x1 x23 (([]:List Int)) x22 x23 x1 (x1.length:Int) 0 x555000) else (some (x555000,0))
def impl_HeapGame.l1:Nat→Int→List Int→Int→List Int→Int→Int→List Int→Int→Int→List (List Int)→Option ((List (List Int))×Int)
 |0,_,_,_,_,_,_,_,_,_,_=>none
 |k+1,x0,x1,x7,x8,x22,x23,x27,x28,x29,x555000=>if x29<x28 then (if 0≤x29 then (if x29<(x27.length:Int) then (if (wrap64 (x7+(rd x27 x29)))≤x0 then (if x8.length<17592186044416 then (impl_HeapGame.l1 k x0 x1 x7 (x8++[wrap64 (x7+(rd x27 x29))]) x22 x23 x27 x28 (wrap64 (x29+1)) x555000) else (none)) else (impl_HeapGame.l1 k x0 x1 x7 x8 x22 x23 x27 x28 (wrap64 (x29+1)) x555000)) else (none)) else (none)) else (if x555000.length<5864062014805 then (impl_HeapGame.l0 k x0 x1 x22 (wrap64 (x23+1)) (x555000++[x8])) else (none))
end
def impl_HeapGame.f (k:Nat) (a0:Int) (l1:List Int):Option ((List (List Int))×Int):=(impl_within.f a0 0 39).bind fun t552=>(if t552=true then ((impl_isRising.f k l1 1 39).bind fun t553=>(impl_HeapGame.j0 k a0 l1 (!t553))) else (impl_HeapGame.j0 k a0 l1 true))
theorem impl_HeapGame.mono_l:∀ k,(∀ y0 y1 y2,LeO (impl_HeapGame.j0 k y0 y1 y2) (impl_HeapGame.j0 (k+1) y0 y1 y2))∧(∀ y0 y1 y2 y3 y4,LeO (impl_HeapGame.l0 k y0 y1 y2 y3 y4) (impl_HeapGame.l0 (k+1) y0 y1 y2 y3 y4))∧(∀ y0 y1 y2 y3 y4 y5 y6 y7 y8 y9,LeO (impl_HeapGame.l1 k y0 y1 y2 y3 y4 y5 y6 y7 y8 y9) (impl_HeapGame.l1 (k+1) y0 y1 y2 y3 y4 y5 y6 y7 y8 y9))
 |0=>⟨fun _ _ _ r h=>by simp [impl_HeapGame.j0] at h,fun _ _ _ _ _ r h=>by simp [impl_HeapGame.l0] at h,fun _ _ _ _ _ _ _ _ _ _ r h=>by simp [impl_HeapGame.l1] at h⟩
 |k+1=>by
  obtain ⟨ih0,ih1,ih2⟩:=impl_HeapGame.mono_l k
  refine ⟨?_,?_,?_⟩
  ·intro y0 y1 y2
   unfold impl_HeapGame.j0
   exact zO1 @impl_isRising.mono
  ·intro y0 y1 y2 y3 y4
   unfold impl_HeapGame.l0
   exact zO1 @impl_isRising.mono
  ·intro y0 y1 y2 y3 y4 y5 y6 y7 y8 y9
   unfold impl_HeapGame.l1
   exact zO1 @impl_isRising.mono
theorem impl_HeapGame.mono:∀ a0 a1 k,LeO (impl_HeapGame.f k a0 a1) (impl_HeapGame.f (k+1) a0 a1):=by
 intro a0 a1 k
 obtain ⟨ih0,ih1,ih2⟩:=impl_HeapGame.mono_l k
 unfold impl_HeapGame.f
 exact zO1 @impl_isRising.mono
theorem impl_HeapGame.calls (k:Nat) (a0:Int) (A1:Option Addr) (c1:Nat) (l1:List Int) (r1:List (List Int)) (r2:Int) (w:World) (hr1:Kd.C (Kd.int .i64) w A1 l1.length l1) (hc1:l1.length≤c1) (h:impl_HeapGame.f k a0 l1=some (r1,r2)):
 Calls Tryz.prog 19 #[.int .i64 a0,.slice A1 l1.length c1] w fun e w'=>∃ v0_:Value,e=.returned (.tuple #[.agg #[v0_],.int .i64 r2])∧Kd.S (Kd.slice 2 (Kd.int .i64)) 28 w' w.heap.size (fun _=>True) v0_ r1∧Below w.heap.size w w':=by
 have hu43:=Tryz.underlying43
 have HR1:=Aside0.mk hr1
 have HC1:=Aside0.mk hc1
 clear hr1 hc1
 have HB:=Aside0.mk (Below.refl w.heap.size w)
 have H:((impl_within.f a0 0 39).bind fun t552=>(if t552=true then ((impl_isRising.f k l1 1 39).bind fun t553=>(impl_HeapGame.j0 k a0 l1 (!t553))) else (impl_HeapGame.j0 k a0 l1 true)))=some (r1,r2):=h
 clear h
 have HC3:=Aside0.mk H
 clear H
 go_enter Tryz.func19,Tryz.ntmps19
 go_upto_region 1 with (first|((with_reducible refine gate_dst (N:=4) rfl ?_);refine zX 4 #[.slice none 0 0] 43 ?_;intro gb551 hg w4 hbox hb;refine zA4 (below_step (zH HB.1) hb) (hbox) (zs hg HB:w.heap.size≤gb551) (zs hg HB:w.heap.size≤gb551) ?_;clear HB;intro HB BK551 GW551 GE551;clear hb hbox hg))
 (try simp only [Act.put,List.setIfInBounds_toArray,List.set_cons_zero,List.set_cons_succ])
 go_cut [18] (fun v18 wc=>∃ (kq:Nat) (x18_2:Bool),v18=.bool x18_2∧Aside0 (impl_HeapGame.j0 kq a0 l1 x18_2=some (r1,r2))∧Aside0 (kq≤k)∧Aside0 (wc.heap[gb551]?=some (.cells #[(.slice none 0 0)] 43 (0,0)))∧Aside0 (Below w.heap.size w wc))
 case first=>
  have H:=HC3.1
  clear HC3
  obtain ⟨t552,A5,H⟩:=zb H
  by_cases c6:t552=true
  ·subst c6
   have H1:((impl_isRising.f k l1 1 39).bind fun t553=>(impl_HeapGame.j0 k a0 l1 (!t553)))=some (r1,r2):=by rw [if_pos rfl] at H;exact H
   clear H
   have H:=H1
   clear H1
   obtain ⟨t553,A7,H⟩:=zb H
   have H':=Aside0.mk H
   clear H
   go_wp2_with (first|((with_reducible refine gate_callee (f:=39) rfl ?_);refine zL (some 12) Tryz.func39 #[.int .i64 a0,.int .i64 0,.int .i64 39] ?_;(with_reducible refine (impl_within.calls a0 0 39 true _ A5.1).mono ?_);rintro e w' ⟨rfl,⟨nd,rfl⟩⟩;refine ⟨_,rfl,?_⟩)|(go_at_call 52;(with_reducible refine (impl_isRising.calls k _ _ l1 1 39 t553 _ ?side1 ?side2 A7.1).mono ?_);(case side1=>repeat (first|exact (Kd.C_below HR1.1 (zH1 HB.1 GE551.1))|(with_reducible refine Kd.C_alloc ?_ _)|(with_reducible refine Kd.C_drewN ?_ _)|(with_reducible refine Kd.C_drew ?_)));(case side2=>exact HC1.1);rintro e w' ⟨rfl,⟨nd,rfl⟩⟩))
   go_meet
   case rel=>exact ⟨_,(!t553),(zF),H',⟨by first|omega|exact Nat.le_refl _⟩,⟨zB BK551.1⟩,⟨zH1 HB.1 GE551.1⟩⟩
  ·replace c6:=Bool.eq_false_iff.mpr c6
   subst c6
   have H1:(impl_HeapGame.j0 k a0 l1 true)=some (r1,r2):=by rw [if_neg (show ¬ (false=true) by decide)] at H;exact H
   clear H
   have H:=H1
   clear H1
   have H':=Aside0.mk H
   clear H
   go_wp2_with (first|((with_reducible refine gate_callee (f:=39) rfl ?_);refine zL (some 12) Tryz.func39 #[.int .i64 a0,.int .i64 0,.int .i64 39] ?_;(with_reducible refine (impl_within.calls a0 0 39 false _ A5.1).mono ?_);rintro e w' ⟨rfl,⟨nd,rfl⟩⟩;refine ⟨_,rfl,?_⟩))
   go_meet
   case rel=>exact ⟨_,(true),(zF),H',⟨by first|omega|exact Nat.le_refl _⟩,⟨zB BK551.1⟩,⟨zH1 HB.1 GE551.1⟩⟩
 case rest=>
  clear HC3
  try clear c1
  try clear p2
  try clear c3
  try clear c6
  obtain ⟨kq,x18_2,rfl,HA,HJ2,BK551,HB⟩:=hcut
  cases kq with
  |zero=>exact absurd HA.1 (by simp [impl_HeapGame.j0])
  |succ kj2=>
   have H:=HA.1
   clear HA
   simp only [impl_HeapGame.j0] at H
   by_cases c8:x18_2=true
   ·subst c8
    have H1:(some (([]:List (List Int)),2))=some (r1,r2):=by rw [if_pos rfl] at H;exact H
    clear H
    have H:=H1
    clear H1
    simp only [Option.some.injEq,Prod.mk.injEq] at H
    obtain ⟨rfl,rfl⟩:=H
    have Z9_0:wc.cell? ⟨gb551,0,none⟩=some (.slice none 0 0):=zx BK551 0
    have V9_0:=blk_frozen BK551.1 0
    go_wp2
    refine bodyPost_ret (results_ct rfl _ _ gb551 43 #[.slice none 0 0] (0,0) _ rfl (zQ BK551.1) Tryz.underlying43 rfl (by kernel_rfl)) rfl ?_
    exact ⟨_,zE,by first|exact Kd.S_nil _ _ _ _ _|exact Kd.N_nil _ _ _ _ _|exact Kd.V_nil _ _ _ _ _|exact Kd.Q_nil _ _ _ _ _|exact Kd.R_nil _ _ _ _ _,zH1 HB.1 GE551.1⟩
   ·replace c8:=Bool.eq_false_iff.mpr c8
    subst c8
    have H1:(impl_HeapGame.l0 kj2 a0 l1 (wrap64 (a0+1)) 0 ([]:List (List Int)))=some (r1,r2):=by rw [if_neg (show ¬ (false=true) by decide)] at H;exact H
    clear H
    have H:=H1
    clear H1
    have H':=Aside0.mk H
    clear H
    go_wp2_with (first|((with_reducible refine gate_dst (N:=6) rfl ?_);refine zX 6 #[.slice none 0 0] 43 ?_;intro gb554 hg w10 hbox hb;refine zA7 (zY BK551.1 hb) (below_step (zH1 HB.1 GE551.1) hb) (hbox) ((zS hg (below_size (zH1 HB.1 GE551.1)):w.heap.size≤gb554)) ((zS hg (below_size (zH1 HB.1 GE551.1)):w.heap.size≤gb554)) ((zl hg (blk_lt (g:=gb551) (o:=.cells #[.slice none 0 0] 43 (0,0)) (zB BK551.1)):gb551≠gb554)) ((zg hg (blk_lt (g:=gb551) (o:=.cells #[.slice none 0 0] 43 (0,0)) (zB BK551.1)):gb554≠gb551)) ?_;clear BK551 HB;intro BK551 HB BK554 GW554 GE554 NB551_554 NB554_551;clear hb hbox hg;have hnb11:=NB554_551.1;have hnc11:=NB551_554.1;have Z12_0:w10.cell? ⟨gb554,0,none⟩=some (.slice none 0 0):=zx BK554 0;have V12_0:=blk_frozen BK554.1 0))
    go_loopg [23] kj2 (fun kq v23 w'=>∃ (x23_2:Int) (x555000_2:List (List Int)) (u555000:Value),v23=.int .i64 x23_2∧Aside0 (impl_HeapGame.l0 kq a0 l1 (wrap64 (a0+1)) x23_2 x555000_2=some (r1,r2))∧Aside0 (kq≤kj2)∧Aside0 (Kd.S (Kd.slice 2 (Kd.int .i64)) 28 w' w.heap.size (fun _=>True) u555000 x555000_2)∧Aside0 (w'.heap[gb551]?=some (.cells #[(.slice none 0 0)] 43 (0,0)))∧Aside0 (w'.heap[gb554]?=some (.cells #[u555000] 43 (0,0)))∧Aside0 (Below w.heap.size w w'))
    case atStart=>exact ⟨(0),(([]:List (List Int))),(.slice none 0 0),(zF),H',⟨Nat.le_refl _⟩,⟨by first|exact Kd.S_nil _ _ _ _ _|exact Kd.N_nil _ _ _ _ _|exact Kd.V_nil _ _ _ _ _|exact Kd.Q_nil _ _ _ _ _|exact Kd.R_nil _ _ _ _ _⟩,⟨zQ1 BK551.1 NB551_554.1⟩,⟨zQ BK554.1⟩,⟨zH2 HB.1 GE551.1 GE554.1⟩⟩
    case round=>
     clear H'
     try clear c1
     try clear p2
     try clear c3
     try clear c6
     try clear p6
     try clear c8
     try clear c11
     try clear Z12_0
     try clear Z9_0
     try clear V12_0
     try clear V9_0
     try clear p2
     obtain ⟨x23_2,x555000_2,u555000,rfl,HA,HK2,HO_555000,BK551,BK554,HB⟩:=hrel
     cases gk with
     |zero=>exact absurd HA.1 (by simp [impl_HeapGame.l0])
     |succ k2=>
      have H:=HA.1
      clear HA
      simp only [impl_HeapGame.l0] at H
      by_cases c13:x23_2<(wrap64 (a0+1))
      ·rw [if_pos c13] at H
       have c13b0:=decide_eq_true c13
       clear c13
       obtain ⟨y555,hy555⟩:∃ y_:List Int,y_=(([]:List Int)):=⟨_,rfl⟩
       replace H:(impl_HeapGame.l1 k2 a0 l1 x23_2 y555 (wrap64 (a0+1)) x23_2 l1 (l1.length:Int) 0 x555000_2)=some (r1,r2):=by first|(rw [hy555];with_reducible exact H)|(have H2_:=(Option.bind_some _ _).symm.trans H;rw [hy555];with_reducible exact H2_)|(have H2_:=(Option.bind_some _ _).symm.trans H;with_reducible exact H2_)|with_reducible exact H|(rw [hy555];exact H)|exact H
       have Ny555:=Aside0.mk hy555
       clear hy555
       have H':=Aside0.mk H
       clear H
       go_wp2_with (first|((with_reducible refine gate_dst (N:=26) rfl ?_);refine Kd.R_lit (Kd.int .i64) _ 2 ?hg (N:=26) ?hd (xs:=([]:List Int)) (inner:=[]) (ok:=fun _=>True) (okp:=fun _=>True) ?hr ?hp (fun _ hk=>hk) trivial (Below.refl _ _) (Nat.le_refl _) (by simp) ?_;(case hd=>rfl);(case hg=>rfl);(case hr=>first|(go_simp;done)|(go_simp;rfl));(case hp=>exact (Reps.none _ _));intro v556 w14 ho15 hb hg_ hnew_;clear hg_ hnew_;(first|rw [← Ny555.1] at ho15|(simp only [Int.reduceToNat] at ho15;rw [← Ny555.1] at ho15));refine zA5 (Kd.S_elder' (by (with_reducible repeat (first|apply Kd.S_alloc|apply Kd.S_drewN|apply Kd.S_drew));exact HO_555000.1) (Kd.R_base ho15) hb) (Kd.R_lower ho15 (below_size (zH2 HB.1 GE551.1 GE554.1))) (zY BK551.1 hb) (zY BK554.1 hb) (below_step (zH2 HB.1 GE551.1 GE554.1) hb) ?_;clear HO_555000 BK551 BK554 HB;intro HO_555000 HO557 BK551 BK554 HB;clear hb ho15))
       go_loopg [8,29] k2 (fun kq v8 v29 w'=>∃ (x8_3:List Int) (x29_3:Int),v29=.int .i64 x29_3∧Aside0 (impl_HeapGame.l1 kq a0 l1 x23_2 x8_3 (wrap64 (a0+1)) x23_2 l1 (l1.length:Int) x29_3 x555000_2=some (r1,r2))∧Aside0 (kq≤k2)∧Aside0 (Kd.R (Kd.int .i64) 2 w' w.heap.size (fun _=>True) v8 x8_3)∧Aside0 (Kd.S (Kd.slice 2 (Kd.int .i64)) 28 w' w.heap.size (fun k_=>some k_≠(v8:Value).ownBlock) u555000 x555000_2)∧Aside0 (w'.heap[gb551]?=some (.cells #[(.slice none 0 0)] 43 (0,0)))∧Aside0 (w'.heap[gb554]?=some (.cells #[u555000] 43 (0,0)))∧Aside0 (Below w.heap.size w w'))
       case atStart=>exact ⟨(y555),(0),(zF),H',⟨Nat.le_refl _⟩,⟨zR HO557.1⟩,⟨by (with_reducible repeat (first|apply Kd.S_alloc|apply Kd.S_drewN|apply Kd.S_drew));exact Kd.S_mono HO_555000.1 (fun _ hk=>hk.2)⟩,⟨zB BK551.1⟩,⟨zB BK554.1⟩,⟨zH2 HB.1 GE551.1 GE554.1⟩⟩
       case round=>
        clear H'
        try clear c1
        try clear p2
        try clear c3
        try clear c6
        try clear p6
        try clear c8
        try clear c11
        try clear c13
        try clear c13b0
        try clear Z12_0
        try clear Z9_0
        try clear V12_0
        try clear V9_0
        try clear p2
        try clear p6
        obtain ⟨x8_3,x29_3,rfl,HA,HK3,HO_8,HO_555000,BK551,BK554,HB⟩:=hrel
        cases gk with
        |zero=>exact absurd HA.1 (by simp [impl_HeapGame.l1])
        |succ k3=>
         have H:=HA.1
         clear HA
         simp only [impl_HeapGame.l1] at H
         by_cases c16:x29_3<(l1.length:Int)
         ·rw [if_pos c16] at H
          have c16b0:=decide_eq_true c16
          clear c16
          by_cases c17:0≤x29_3
          ·rw [if_pos c17] at H
           have c17b0:=decide_eq_true c17
           clear c17
           by_cases c18:x29_3<(l1.length:Int)
           ·rw [if_pos c18] at H
            have c18b0:=decide_eq_true c18
            clear c18
            by_cases c19:(wrap64 (x23_2+(rd l1 x29_3)))≤a0
            ·rw [if_pos c19] at H
             have c19b0:=decide_eq_true c19
             clear c19
             by_cases c20:x8_3.length<17592186044416
             ·rw [if_pos c20] at H
              have LMc20:=Aside0.mk c20
              clear c20
              obtain ⟨y559,hy559⟩:∃ y_:List Int,y_=(x8_3++[wrap64 (x23_2+(rd l1 x29_3))]):=⟨_,rfl⟩
              replace H:(impl_HeapGame.l1 k3 a0 l1 x23_2 y559 (wrap64 (a0+1)) x23_2 l1 (l1.length:Int) (wrap64 (x29_3+1)) x555000_2)=some (r1,r2):=by first|(rw [hy559];with_reducible exact H)|(have H2_:=(Option.bind_some _ _).symm.trans H;rw [hy559];with_reducible exact H2_)|(have H2_:=(Option.bind_some _ _).symm.trans H;with_reducible exact H2_)|with_reducible exact H|(rw [hy559];exact H)|exact H
              have Ny559:=Aside0.mk hy559
              clear hy559
              have H':=Aside0.mk H
              clear H
              have p558:0≤(x29_3:Int):=zo
              have q558:x29_3<(l1.length:Int):=zo
              obtain ⟨ad558,e558,hx558_0⟩:=Kd.at_int HR1.1 x29_3 p558 q558
              cases e558
              replace hx558_0:=zy HB hx558_0
              replace p558:=eq_true p558
              replace q558:=eq_true q558
              go_wp2_with (first|((with_reducible refine gate_builtin (b:=.append) (xs:=#[.tmp 38,.tmp 42]) rfl ?_);at_builtin;refine Kd.R_append (Kd.int .i64) (w0:=w) w.heap.size rfl (.tmp 38) (.tmp 42) 28 2 (.int .i64 0) 8 rfl Tryz.underlying28 info2 rfl (by decide) (by omega) u8 x8_3 (wrap64 (x23_2+(rd l1 x29_3))) [.int .i64 (wrap64 (x23_2+(rd l1 x29_3)))] (fun _=>True) (fun _=>False) rfl rfl ?aP (fun _ hk=>hk.elim) ?aF ?aO ?aB ?aS ?aL ?_;(case aP=>exact rfl);(case aB=>exact (zH2 HB.1 GE551.1 GE554.1));(case aF=>exact (fun _ _=>trivial));(case aO=>exact (zR HO_8.1));(case aS=>exact (below_size (zH2 HB.1 GE551.1 GE554.1)));(case aL=>have:=LMc20.1;omega);intro v560 w21 ho hb hg hat;rw [← Ny559.1] at ho;refine zA5 (Kd.S_after (ok:=(fun _=>True)) (by (with_reducible repeat (first|apply Kd.S_alloc|apply Kd.S_drewN|apply Kd.S_drew));exact Kd.S_mono HO_555000.1 (fun _ hk=>⟨trivial,hk⟩)) hg hat) (blk_grown (g:=gb551) (o:=.cells #[.slice none 0 0] 43 (0,0)) (zB BK551.1) hg (Kd.R_ne HO_8.1 BK551.1 (by decide))) (blk_grown (g:=gb554) (o:=.cells #[u555000] 43 (0,0)) (zB BK554.1) hg (Kd.R_ne HO_8.1 BK554.1 (by decide))) (hb) (ho) ?_;clear HO_555000 BK551 BK554 HB HO_8;intro HO_555000 BK551 BK554 HB HO561;clear ho hb hg hat))
              go_roundg k3
              case measure=>have:=HJ2.1;have:=HK2.1;have:=HK3.1;omega
              case rel=>exact ⟨(y559),(wrap64 (x29_3+1)),(zF),H',⟨by have:=HJ2.1;have:=HK2.1;have:=HK3.1;omega⟩,⟨zR HO561.1⟩,⟨by (with_reducible repeat (first|apply Kd.S_alloc|apply Kd.S_drewN|apply Kd.S_drew));exact Kd.S_mono HO_555000.1 (fun _ hk=>hk.2)⟩,⟨zB BK551.1⟩,⟨zB BK554.1⟩,⟨zH2 HB.1 GE551.1 GE554.1⟩⟩
             ·rw [if_neg c20] at H
              exact absurd H (by simp)
            ·rw [if_neg c19] at H
             have c19b0:=decide_eq_false c19
             clear c19
             have H':=Aside0.mk H
             clear H
             have p558:0≤(x29_3:Int):=zo
             have q558:x29_3<(l1.length:Int):=zo
             obtain ⟨ad558,e558,hx558_0⟩:=Kd.at_int HR1.1 x29_3 p558 q558
             cases e558
             replace hx558_0:=zy HB hx558_0
             replace p558:=eq_true p558
             replace q558:=eq_true q558
             go_wp2
             go_roundg k3
             case measure=>have:=HJ2.1;have:=HK2.1;have:=HK3.1;omega
             case rel=>exact ⟨(x8_3),(wrap64 (x29_3+1)),(zF),H',⟨by have:=HJ2.1;have:=HK2.1;have:=HK3.1;omega⟩,⟨zR HO_8.1⟩,⟨by (with_reducible repeat (first|apply Kd.S_alloc|apply Kd.S_drewN|apply Kd.S_drew));exact HO_555000.1⟩,⟨zB BK551.1⟩,⟨zB BK554.1⟩,⟨zH2 HB.1 GE551.1 GE554.1⟩⟩
           ·rw [if_neg c18] at H
            exact absurd H (by simp)
          ·rw [if_neg c17] at H
           exact absurd H (by simp)
         ·rw [if_neg c16] at H
          have c16b0:=decide_eq_false c16
          clear c16
          by_cases c22:x555000_2.length<5864062014805
          ·rw [if_pos c22] at H
           have LMc22:=Aside0.mk c22
           clear c22
           obtain ⟨y562,hy562⟩:∃ y_:List (List Int),y_=(x555000_2++[x8_3]):=⟨_,rfl⟩
           replace H:(impl_HeapGame.l0 k3 a0 l1 (wrap64 (a0+1)) (wrap64 (x23_2+1)) y562)=some (r1,r2):=by first|(rw [hy562];with_reducible exact H)|(have H2_:=(Option.bind_some _ _).symm.trans H;rw [hy562];with_reducible exact H2_)|(have H2_:=(Option.bind_some _ _).symm.trans H;with_reducible exact H2_)|with_reducible exact H|(rw [hy562];exact H)|exact H
           have Ny562:=Aside0.mk hy562
           clear hy562
           have H':=Aside0.mk H
           clear H
           have hnb23:=NB554_551.1
           have hnc23:=NB551_554.1
           have Z24_0:wr.cell? ⟨gb554,0,none⟩=some (u555000):=zx BK554 0
           have V24_0:=blk_frozen BK554.1 0
           obtain ⟨Ao26,co26,eo26⟩:=Kd.R_slice HO_8.1
           subst eo26
           go_wp2_with (first|((with_reducible refine gate_builtin (b:=.append) (xs:=#[.tmp 46,.tmp 48]) rfl ?_);at_builtin;refine Kd.S_append (Kd.slice 2 (Kd.int .i64)) (w0:=w) w.heap.size rfl (.tmp 46) (.tmp 48) 41 28 (.slice none 0 0) 24 rfl Tryz.underlying41 info28 rfl (by decide) (by omega) u555000 x555000_2 x8_3 [.slice Ao26 x8_3.length co26] (fun _=>True) (fun k_=>some k_=(.slice Ao26 x8_3.length co26:Value).ownBlock) rfl rfl ?aP (fun k_ hk_=>((Kd.R_mono (ok':=fun k_=>((fun _=>True)) k_∧some k_≠(u555000:Value).ownBlock) (Kd.R_apart' (HO_8.1) (Kd.S_typed HO_555000.1) (by decide)) (fun k_ hk=>⟨trivial,hk.2⟩))).1 k_ hk_.symm) ?aF ?aO ?aB ?aS ?aL ?_;(case aP=>exact Kd.M_row (Kd.R_mono (Kd.R_tight rfl (Kd.R_mono (ok':=fun k_=>((fun _=>True)) k_∧some k_≠(u555000:Value).ownBlock) (Kd.R_apart' (HO_8.1) (Kd.S_typed HO_555000.1) (by decide)) (fun k_ hk=>⟨trivial,hk.2⟩))) (fun _ h_=>h_)));(case aB=>exact (zH2 HB.1 GE551.1 GE554.1));(case aF=>exact (fun _ _=>trivial));(case aO=>exact (by (with_reducible repeat (first|apply Kd.S_alloc|apply Kd.S_drewN|apply Kd.S_drew));exact Kd.S_mono HO_555000.1 (fun k_ hk=>⟨trivial,fun e_=>hk e_⟩)));(case aS=>exact (below_size (zH2 HB.1 GE551.1 GE554.1)));(case aL=>have:=LMc22.1;omega);intro v563 w25 ho hb hg hat;rw [← Ny562.1] at ho;refine zA4 (blk_grown (g:=gb551) (o:=.cells #[.slice none 0 0] 43 (0,0)) (zB BK551.1) hg (Kd.S_ne HO_555000.1 BK551.1 (by decide))) (blk_grown (g:=gb554) (o:=.cells #[u555000] 43 (0,0)) (zB BK554.1) hg (Kd.S_ne HO_555000.1 BK554.1 (by decide))) (hb) (ho) ?_;clear BK551 BK554 HB HO_555000 HO_8;intro BK551 BK554 HB HO564;clear ho hb hg hat;obtain ⟨Ao27,co27,eo27⟩:=Kd.S_slice HO564.1;subst eo27;have Z28_0:w25.cell? ⟨gb554,0,none⟩=some (u555000):=zx BK554 0;have V28_0:=blk_frozen BK554.1 0))
           go_roundg k3
           case measure=>have:=HJ2.1;have:=HK2.1;have:=HK3.1;omega
           case rel=>exact ⟨(wrap64 (x23_2+1)),(y562),(.slice Ao27 y562.length co27),(zF),H',⟨by have:=HJ2.1;have:=HK2.1;have:=HK3.1;omega⟩,⟨by (with_reducible repeat (first|apply Kd.S_alloc|apply Kd.S_drewN|apply Kd.S_drew));exact Kd.S_mono (Kd.S_far (p:=⟨gb554,0,none⟩) (Kd.S_types HO564.1 BK554.1 (by decide)) (fun _ hk=>hk.2) (.slice Ao27 y562.length co27)) (fun _ hk=>trivial)⟩,⟨zQ1 BK551.1 NB551_554.1⟩,⟨zQ BK554.1⟩,⟨zH2 HB.1 GE551.1 GE554.1⟩⟩
          ·rw [if_neg c22] at H
           exact absurd H (by simp)
      ·rw [if_neg c13] at H
       have c13b0:=decide_eq_false c13
       clear c13
       simp only [Option.some.injEq,Prod.mk.injEq] at H
       obtain ⟨rfl,rfl⟩:=H
       have hnb29:=NB554_551.1
       have hnc29:=NB551_554.1
       have Z30_0:wr.cell? ⟨gb554,0,none⟩=some (u555000):=zx BK554 0
       have V30_0:=blk_frozen BK554.1 0
       obtain ⟨Ao31,co31,eo31⟩:=Kd.S_slice HO_555000.1
       subst eo31
       have Z32_0:wr.cell? ⟨gb551,0,none⟩=some (.slice none 0 0):=zx BK551 0
       have V32_0:=blk_frozen BK551.1 0
       go_wp2
       refine bodyPost_ret (results_ct rfl _ _ gb551 43 #[.slice Ao31 x555000_2.length co31] (0,0) _ rfl (zQ BK551.1) Tryz.underlying43 rfl (by kernel_rfl)) rfl ?_
       exact ⟨_,zE,by (with_reducible repeat (first|apply Kd.S_alloc|apply Kd.S_drewN|apply Kd.S_drew));exact Kd.S_mono (Kd.S_far (p:=⟨gb551,0,none⟩) (Kd.S_types HO_555000.1 BK551.1 (by decide)) (fun _ hk=>hk.2) (.slice Ao31 x555000_2.length co31)) (fun _ hk=>trivial),zH2 HB.1 GE551.1 GE554.1⟩
end Go.Proofs.YtlmohkbimnhecaaGreat.Q
