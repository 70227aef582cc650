import Derived.Test.YtlmohkbimnhecaaGreatQ0
import Derived.Test.YtlmohkbimnhecaaGreatSq
import Derived.Test.YtlmohkbimnhecaaGreatQ4
import Derived.Test.YtlmohkbimnhecaaGreatQ6
set_option maxHeartbeats 8000000
set_option maxRecDepth 100000
namespace Go.Proofs.YtlmohkbimnhecaaGreat.Q
open Go.RowKit Go.Proofs.YtlmohkbimnhecaaGreatW.PrintWords Go.Proofs.YtlmohkbimnhecaaGreatW.PrintLast Go.Proofs.YtlmohkbimnhecaaGreatW.PrintMore
attribute [local go_sem] max2_int min2_int max_two min_two max_three min_three max_four min_four
set_option linter.unusedVariables false
set_option linter.unusedSimpArgs false
def spec_l05Order.l0:Nat→List Int→Int→List Bool→Int→Option (Bool)
 |0,_,_,_,_=>none
 |k+1,x0,x1,x5,x6=>if x6<(x0.length:Int) then (if 0≤x6 then ((spec_l01In.f (rd x0 x6) 0 (wrap64 (x1-1))).bind fun t694=>(if t694=true then (if 0≤(rd x0 x6) then (if (rd x0 x6)<(x5.length:Int) then (if rdOf false x5 (rd x0 x6)=true then (some false) else (spec_l05Order.l0 k x0 x1 (x5.set ((rd x0 x6):Int).toNat true) (wrap64 (x6+1)))) else (none)) else (none)) else (some false))) else (none)) else (some ((x0.length:Int)==x1))
def spec_l05Order.f (k:Nat) (l0:List Int) (a1:Int):Option (Bool):=if 0≤a1 then (if (a1:Int).toNat≤281474976710656 then (spec_l05Order.l0 k l0 a1 (List.replicate (a1:Int).toNat false) 0) else (none)) else (none)
theorem spec_l05Order.calls (k:Nat) (A0:Option Addr) (c0:Nat) (l0:List Int) (a1:Int) (r:Bool) (w:World) (hr0:Kd.C (Kd.int .i64) w A0 l0.length l0) (hc0:l0.length≤c0) (h:spec_l05Order.f k l0 a1=some r):
 Calls Tryz.prog 61 #[.slice A0 l0.length c0,.int .i64 a1] w fun e w'=>e=.returned (.bool r)∧Below w.heap.size w w':=by
 have HR0:=Aside0.mk hr0
 have HC0:=Aside0.mk hc0
 clear hr0 hc0
 have HB:=Aside0.mk (Below.refl w.heap.size w)
 have H:(if 0≤a1 then (if (a1:Int).toNat≤281474976710656 then (spec_l05Order.l0 k l0 a1 (List.replicate (a1:Int).toNat false) 0) else (none)) else (none))=some r:=h
 clear h
 by_cases c3:0≤a1
 ·rw [if_pos c3] at H
  have c3b0:=eq_true c3
  have c3b1:=decide_eq_true c3
  clear c3
  by_cases c4:(a1:Int).toNat≤281474976710656
  ·rw [if_pos c4] at H
   have c4b0:=eq_true c4
   have c4b1:=decide_eq_true c4
   clear c4
   obtain ⟨y690,hy690⟩:∃ y_:List Bool,y_=(List.replicate (a1:Int).toNat false):=⟨_,rfl⟩
   replace H:(spec_l05Order.l0 k l0 a1 y690 0)=some r:=by first|(rw [hy690];with_reducible exact H)|(have H2_:=(Option.bind_some _ _).symm.trans H;rw [hy690];with_reducible exact H2_)|(have H2_:=(Option.bind_some _ _).symm.trans H;with_reducible exact H2_)|with_reducible exact H|(rw [hy690];exact H)|exact H
   have Ny690:=Aside0.mk hy690
   clear hy690
   have H':=Aside0.mk H
   clear H
   go_enter Tryz.func61,Tryz.ntmps61
   go_wp2_with (first|((with_reducible refine gate_dst (N:=8) rfl ?_);refine Kd.R_make Kd.bool _ 4 rfl (N:=8) rfl 46 _ _ rfl a1 rfl rfl Tryz.underlying46 (.bool false) 1 info4 rfl (by decide) (by omega) false (ok:=fun _=>True) (okp:=fun _=>True) rfl (fun _ hk=>hk) trivial zo (Nat.le_trans (Nat.mul_le_mul_right _ (zo:a1.toNat≤281474976710656)) (by omega)) (Below.refl _ _) (Nat.le_refl _) ?_;intro v691 w5 ho6 hb hg_ hnew_;clear hg_ hnew_;(first|rw [← Ny690.1] at ho6|(simp only [Int.reduceToNat] at ho6;rw [← Ny690.1] at ho6));refine zA2 (Kd.R_lower ho6 (below_size (zH HB.1))) (below_step (zH HB.1) hb) ?_;clear HB;intro HO692 HB;clear hb ho6))
   go_loopg [6] k (fun kq v6 w'=>∃ (x5_1:List Bool) (x6_1:Int),v6=.int .i64 x6_1∧Aside0 (spec_l05Order.l0 kq l0 a1 x5_1 x6_1=some r)∧Aside0 (kq≤k)∧Aside0 (Kd.R Kd.bool 4 w' w.heap.size (fun _=>True) v691 x5_1)∧Aside0 (Below w.heap.size w w'))
   case atStart=>exact ⟨(y690),(0),(zF),H',⟨Nat.le_refl _⟩,⟨zR HO692.1⟩,⟨zH HB.1⟩⟩
   case round=>
    clear H'
    try clear p2
    try clear c3
    try clear c3b0
    try clear c3b1
    try clear c4
    try clear c4b0
    try clear c4b1
    try clear c6
    obtain ⟨x5_1,x6_1,rfl,HA,HK1,HO_5,HB⟩:=hrel
    cases gk with
    |zero=>exact absurd HA.1 (by simp [spec_l05Order.l0])
    |succ k1=>
     have H:=HA.1
     clear HA
     simp only [spec_l05Order.l0] at H
     by_cases c7:x6_1<(l0.length:Int)
     ·rw [if_pos c7] at H
      have c7b0:=decide_eq_true c7
      clear c7
      by_cases c8:0≤x6_1
      ·rw [if_pos c8] at H
       have c8b0:=decide_eq_true c8
       clear c8
       obtain ⟨t694,A9,H⟩:=zb H
       by_cases c10:t694=true
       ·subst c10
        have H1:(if 0≤(rd l0 x6_1) then (if (rd l0 x6_1)<(x5_1.length:Int) then (if rdOf false x5_1 (rd l0 x6_1)=true then (some false) else (spec_l05Order.l0 k1 l0 a1 (x5_1.set ((rd l0 x6_1):Int).toNat true) (wrap64 (x6_1+1)))) else (none)) else (none))=some r:=by rw [if_pos rfl] at H;exact H
        clear H
        have H:=H1
        clear H1
        by_cases c11:0≤(rd l0 x6_1)
        ·rw [if_pos c11] at H
         have c11b0:=decide_eq_true c11
         clear c11
         by_cases c12:(rd l0 x6_1)<(x5_1.length:Int)
         ·rw [if_pos c12] at H
          have c12b0:=decide_eq_true c12
          clear c12
          obtain ⟨bq13,hbq13⟩:∃ b_:Bool,b_=(rdOf false x5_1 (rd l0 x6_1)):=⟨_,rfl⟩
          replace H:(if bq13=true then (some false) else (spec_l05Order.l0 k1 l0 a1 (x5_1.set ((rd l0 x6_1):Int).toNat true) (wrap64 (x6_1+1))))=some r:=by rw [← hbq13] at H;exact H
          have Nbq13:=Aside0.mk hbq13
          clear hbq13
          by_cases c14:bq13=true
          ·subst c14
           have H1:(some false)=some r:=by rw [if_pos rfl] at H;exact H
           clear H
           have H:=H1
           clear H1
           obtain rfl:=Option.some.inj H
           have p693:0≤(x6_1:Int):=zo
           have q693:x6_1<(l0.length:Int):=zo
           obtain ⟨ad693,e693,hx693_0⟩:=Kd.at_int HR0.1 x6_1 p693 q693
           cases e693
           replace hx693_0:=zy HB hx693_0
           replace p693:=eq_true p693
           replace q693:=eq_true q693
           go_wp2_with (first|((with_reducible refine gate_callee (f:=74) rfl ?_);refine zL (some 21) Tryz.func74 #[.int .i64 (rd l0 x6_1),.int .i64 0,.int .i64 (wrap64 (a1-1))] ?_;(with_reducible refine (spec_l01In.calls (rd l0 x6_1) 0 (wrap64 (a1-1)) true _ A9.1).mono ?_);rintro e w' ⟨rfl,⟨nd,rfl⟩⟩;refine ⟨_,rfl,?_⟩;have p695:0≤(x6_1:Int):=zo;have q695:x6_1<(l0.length:Int):=zo;obtain ⟨ad695,e695,hx695_0⟩:=Kd.at_int HR0.1 x6_1 p695 q695;obtain rfl:ad693=ad695:=(by injection e695);replace hx695_0:=zy HB hx695_0;replace p695:=eq_true p695;replace q695:=eq_true q695;obtain ⟨Ao15,co15,eo15⟩:=Kd.R_slice HO_5.1;subst eo15;have p696:0≤((rd l0 x6_1):Int):=zo;have q696:(rd l0 x6_1)<(x5_1.length:Int):=zo;obtain ⟨ad696,e696,hx696_0⟩:=Kd.at_bool (Kd.R_reads' HO_5.1).2.2 (rd l0 x6_1) p696 q696;(try rw [← Nbq13.1] at hx696_0);cases e696;replace p696:=eq_true p696;replace q696:=eq_true q696))
           go_ret
           exact ⟨zE,zH HB.1⟩
          ·replace c14:=Bool.eq_false_iff.mpr c14
           subst c14
           have H1:(spec_l05Order.l0 k1 l0 a1 (x5_1.set ((rd l0 x6_1):Int).toNat true) (wrap64 (x6_1+1)))=some r:=by rw [if_neg (show ¬ (false=true) by decide)] at H;exact H
           clear H
           have H:=H1
           clear H1
           obtain ⟨y698,hy698⟩:∃ y_:List Bool,y_=(x5_1.set ((rd l0 x6_1):Int).toNat true):=⟨_,rfl⟩
           replace H:(spec_l05Order.l0 k1 l0 a1 y698 (wrap64 (x6_1+1)))=some r:=by first|(rw [hy698];with_reducible exact H)|(have H2_:=(Option.bind_some _ _).symm.trans H;rw [hy698];with_reducible exact H2_)|(have H2_:=(Option.bind_some _ _).symm.trans H;with_reducible exact H2_)|with_reducible exact H|(rw [hy698];exact H)|exact H
           have Ny698:=Aside0.mk hy698
           clear hy698
           have H':=Aside0.mk H
           clear H
           have p693:0≤(x6_1:Int):=zo
           have q693:x6_1<(l0.length:Int):=zo
           obtain ⟨ad693,e693,hx693_0⟩:=Kd.at_int HR0.1 x6_1 p693 q693
           cases e693
           replace hx693_0:=zy HB hx693_0
           replace p693:=eq_true p693
           replace q693:=eq_true q693
           go_wp2_with (first|((with_reducible refine gate_callee (f:=74) rfl ?_);refine zL (some 21) Tryz.func74 #[.int .i64 (rd l0 x6_1),.int .i64 0,.int .i64 (wrap64 (a1-1))] ?_;(with_reducible refine (spec_l01In.calls (rd l0 x6_1) 0 (wrap64 (a1-1)) true _ A9.1).mono ?_);rintro e w' ⟨rfl,⟨nd,rfl⟩⟩;refine ⟨_,rfl,?_⟩;(try (rw [drewN_self wr];generalize hq_:World.drewN wr _=wr;have n0_:Aside0 (Kd.R Kd.bool 4 wr w.heap.size (fun _=>True) v691 x5_1):=⟨by rw [← hq_];exact (zR HO_5.1)⟩;have n1_:Aside0 (Below w.heap.size w wr):=⟨by rw [← hq_];exact (zH HB.1)⟩;clear HO_5 HB hq_;have HO_5:=n0_;have HB:=n1_;clear n0_ n1_));have p695:0≤(x6_1:Int):=zo;have q695:x6_1<(l0.length:Int):=zo;obtain ⟨ad695,e695,hx695_0⟩:=Kd.at_int HR0.1 x6_1 p695 q695;obtain rfl:ad693=ad695:=(by injection e695);replace hx695_0:=zy HB hx695_0;replace p695:=eq_true p695;replace q695:=eq_true q695;obtain ⟨Ao17,co17,eo17⟩:=Kd.R_slice HO_5.1;subst eo17;have p696:0≤((rd l0 x6_1):Int):=zo;have q696:(rd l0 x6_1)<(x5_1.length:Int):=zo;obtain ⟨ad696,e696,hx696_0⟩:=Kd.at_bool (Kd.R_reads' HO_5.1).2.2 (rd l0 x6_1) p696 q696;(try rw [← Nbq13.1] at hx696_0);cases e696;replace p696:=eq_true p696;replace q696:=eq_true q696;have p697:0≤(x6_1:Int):=zo;have q697:x6_1<(l0.length:Int):=zo;obtain ⟨ad697,e697,hx697_0⟩:=Kd.at_int HR0.1 x6_1 p697 q697;obtain rfl:ad693=ad697:=(by injection e697);replace hx697_0:=zy HB hx697_0;replace p697:=eq_true p697;replace q697:=eq_true q697;have p16:0≤((rd l0 x6_1):Int):=zo;have q16:((rd l0 x6_1):Int)<((x5_1.length:Int):Int):=zo;obtain ⟨go16,co16,eo16,gb16,gl16,cl16,HG16⟩:=Kd.R_form HO_5.1 (by omega);(first|cases eo16|(injection eo16 with ea_ en_ ec_;(first|subst ea_|(injection ea_ with ea_;subst ea_));subst ec_;clear en_));have GB16:=Aside0.mk gb16;have GG16:=Aside0.mk HG16;clear gb16 gl16 HG16;(first|simp only [add_plain] at hx696_0|skip);obtain ⟨hx16_0,hf16_0⟩:=Kd.R_celln false HO_5.1 ((rd l0 x6_1):Int) p16 q16;replace p16:=eq_true p16;replace q16:=eq_true q16;obtain ⟨hy18_,hz18_⟩:=Kd.R_celln false HO_5.1 ((rd l0 x6_1):Int) zo zo;have HP18:=Kd.R_putg HO_5.1 ((rd l0 x6_1):Int) true)|((with_reducible refine gate_store (t:=4) (p:=37) rfl ?_);refine store_event (t:=4) (p:=37) (v:=?vo_w19) (w1:=(wr.setCell ⟨go16,((rd l0 x6_1):Int).toNat,none⟩ (.bool true))) ?hg ?ho ?hn ?hr ?_;(case ho=>rfl);(case hg=>rfl);(case hn=>rfl);(case hr=>first|(go_simp;done)|(go_simp;rfl));intro w19 hw;have hg:wr.grownBy w19 (some go16):=(by rw [hw];exact HP18.2);have hp_:Kd.R Kd.bool 4 w19 w.heap.size (fun _=>True) (.slice (some ⟨go16,0,none⟩) x5_1.length co17) y698:=(by rw [hw,Ny698.1];exact HP18.1);clear HP18;refine zA2 (hp_) ((by rw [hw];exact below_set (HB.1) GB16.1:Below w.heap.size w w19)) ?_;clear HO_5 HB;intro HO_5 HB;clear hg hw hp_))
           go_roundg k1
           case measure=>have:=HK1.1;omega
           case rel=>exact ⟨(y698),(wrap64 (x6_1+1)),(zF),H',⟨by have:=HK1.1;omega⟩,⟨zR HO_5.1⟩,⟨zH HB.1⟩⟩
         ·rw [if_neg c12] at H
          exact absurd H (by simp)
        ·rw [if_neg c11] at H
         exact absurd H (by simp)
       ·replace c10:=Bool.eq_false_iff.mpr c10
        subst c10
        have H1:(some false)=some r:=by rw [if_neg (show ¬ (false=true) by decide)] at H;exact H
        clear H
        have H:=H1
        clear H1
        obtain rfl:=Option.some.inj H
        have p693:0≤(x6_1:Int):=zo
        have q693:x6_1<(l0.length:Int):=zo
        obtain ⟨ad693,e693,hx693_0⟩:=Kd.at_int HR0.1 x6_1 p693 q693
        cases e693
        replace hx693_0:=zy HB hx693_0
        replace p693:=eq_true p693
        replace q693:=eq_true q693
        go_wp2_with (first|((with_reducible refine gate_callee (f:=74) rfl ?_);refine zL (some 21) Tryz.func74 #[.int .i64 (rd l0 x6_1),.int .i64 0,.int .i64 (wrap64 (a1-1))] ?_;(with_reducible refine (spec_l01In.calls (rd l0 x6_1) 0 (wrap64 (a1-1)) false _ A9.1).mono ?_);rintro e w' ⟨rfl,⟨nd,rfl⟩⟩;refine ⟨_,rfl,?_⟩))
        go_ret
        exact ⟨zE,zH HB.1⟩
      ·rw [if_neg c8] at H
       exact absurd H (by simp)
     ·rw [if_neg c7] at H
      have c7b0:=decide_eq_false c7
      clear c7
      obtain rfl:=Option.some.inj H
      go_wp2
      go_ret
      exact ⟨zE,zH HB.1⟩
  ·rw [if_neg c4] at H
   exact absurd H (by simp)
 ·rw [if_neg c3] at H
  exact absurd H (by simp)
def spec_IsMatching.f (k:Nat) (a0_0:Int) (a0_1:Int) (a0_2:Int) (a0_3:Int) (l1:List Int):Option (Bool×Int):=(spec_l05Is.f a0_0 a0_1 a0_2 a0_3).bind fun t700=>(if t700=true then ((spec_l05Order.f k l1 a0_0).bind fun t701=>(if t701=true then ((spec_l05Matches.f k a0_0 a0_1 a0_2 a0_3 l1).bind fun t702=>(some (t702,0))) else (some (false,2)))) else (some (false,1)))
theorem spec_IsMatching.calls (k:Nat) (a0_0:Int) (a0_1:Int) (a0_2:Int) (a0_3:Int) (A1:Option Addr) (c1:Nat) (l1:List Int) (r1:Bool) (r2:Int) (w:World) (hr1:Kd.C (Kd.int .i64) w A1 l1.length l1) (hc1:l1.length≤c1) (h:spec_IsMatching.f k a0_0 a0_1 a0_2 a0_3 l1=some (r1,r2)):
 Calls Tryz.prog 25 #[.agg #[.int .i64 a0_0,.int .i64 a0_1,.int .i64 a0_2,.int .i64 a0_3],.slice A1 l1.length c1] w fun e w'=>e=.returned (.tuple #[.bool r1,.int .i64 r2])∧Below w.heap.size w w':=by
 have hu25:=Tryz.underlying25
 have HR1:=Aside0.mk hr1
 have HC1:=Aside0.mk hc1
 clear hr1 hc1
 have HB:=Aside0.mk (Below.refl w.heap.size w)
 have H:((spec_l05Is.f a0_0 a0_1 a0_2 a0_3).bind fun t700=>(if t700=true then ((spec_l05Order.f k l1 a0_0).bind fun t701=>(if t701=true then ((spec_l05Matches.f k a0_0 a0_1 a0_2 a0_3 l1).bind fun t702=>(some (t702,0))) else (some (false,2)))) else (some (false,1))))=some (r1,r2):=h
 clear h
 obtain ⟨t700,A3,H⟩:=zb H
 by_cases c4:t700=true
 ·subst c4
  have H1:((spec_l05Order.f k l1 a0_0).bind fun t701=>(if t701=true then ((spec_l05Matches.f k a0_0 a0_1 a0_2 a0_3 l1).bind fun t702=>(some (t702,0))) else (some (false,2))))=some (r1,r2):=by rw [if_pos rfl] at H;exact H
  clear H
  have H:=H1
  clear H1
  obtain ⟨t701,A5,H⟩:=zb H
  by_cases c6:t701=true
  ·subst c6
   have H1:((spec_l05Matches.f k a0_0 a0_1 a0_2 a0_3 l1).bind fun t702=>(some (t702,0)))=some (r1,r2):=by rw [if_pos rfl] at H;exact H
   clear H
   have H:=H1
   clear H1
   obtain ⟨t702,A7,H⟩:=zb H
   simp only [Option.some.injEq,Prod.mk.injEq] at H
   obtain ⟨rfl,rfl⟩:=H
   go_enter Tryz.func25,Tryz.ntmps25
   go_wp2_with (first|((with_reducible refine gate_dst (N:=2) rfl ?_);refine zX 2 #[.int .i64 a0_0,.int .i64 a0_1,.int .i64 a0_2,.int .i64 a0_3] 25 ?_;intro gb699 hg w8 hbox hb;refine zA4 (below_step (zH HB.1) hb) (hbox) (zs hg HB:w.heap.size≤gb699) (zs hg HB:w.heap.size≤gb699) ?_;clear HB;intro HB BK699 GW699 GE699;clear hb hbox hg;obtain ⟨Z9_0,Z9_1,Z9_2,Z9_3⟩:=zc4 BK699;obtain ⟨V9_0,V9_1,V9_2,V9_3⟩:=zf4 BK699)|((with_reducible refine gate_callee (f:=47) rfl ?_);refine zL (some 8) Tryz.func47 #[.agg #[.int .i64 a0_0,.int .i64 a0_1,.int .i64 a0_2,.int .i64 a0_3]] ?_;(with_reducible refine (spec_l05Is.calls a0_0 a0_1 a0_2 a0_3 true _ A3.1).mono ?_);rintro e w10 ⟨rfl,hb⟩;refine ⟨_,rfl,?_⟩;refine zA2 (zY BK699.1 hb) (below_step (zH1 HB.1 GE699.1) hb) ?_;clear BK699 HB;intro BK699 HB;(try clear hb);obtain ⟨Z11_0,Z11_1,Z11_2,Z11_3⟩:=zc4 BK699;obtain ⟨V11_0,V11_1,V11_2,V11_3⟩:=zf4 BK699)|((with_reducible refine gate_callee (f:=61) rfl ?_);refine zL (some 14) Tryz.func61 #[.slice A1 l1.length c1,.int .i64 a0_0] ?_;(with_reducible refine (spec_l05Order.calls k _ _ l1 a0_0 true _ ?side1 ?side2 A5.1).mono ?_);(case side1=>repeat (first|exact (Kd.C_below HR1.1 HB.1)|(with_reducible refine Kd.C_alloc ?_ _)|(with_reducible refine Kd.C_drewN ?_ _)|(with_reducible refine Kd.C_drew ?_)));(case side2=>exact HC1.1);rintro e w12 ⟨rfl,hb⟩;refine ⟨_,rfl,?_⟩;refine zA2 (zY BK699.1 hb) (below_step (zH1 HB.1 GE699.1) hb) ?_;clear BK699 HB;intro BK699 HB;(try clear hb);obtain ⟨Z13_0,Z13_1,Z13_2,Z13_3⟩:=zc4 BK699;obtain ⟨V13_0,V13_1,V13_2,V13_3⟩:=zf4 BK699)|((with_reducible refine gate_callee (f:=62) rfl ?_);refine zL (some 18) Tryz.func62 #[.agg #[.int .i64 a0_0,.int .i64 a0_1,.int .i64 a0_2,.int .i64 a0_3],.slice A1 l1.length c1] ?_;(with_reducible refine (spec_l05Matches.calls k a0_0 a0_1 a0_2 a0_3 _ _ l1 t702 _ ?side1 ?side2 A7.1).mono ?_);(case side1=>repeat (first|exact (Kd.C_below HR1.1 HB.1)|(with_reducible refine Kd.C_alloc ?_ _)|(with_reducible refine Kd.C_drewN ?_ _)|(with_reducible refine Kd.C_drew ?_)));(case side2=>exact HC1.1);rintro e w14 ⟨rfl,hb⟩;refine ⟨_,rfl,?_⟩;refine zA2 (zY BK699.1 hb) (below_step (zH1 HB.1 GE699.1) hb) ?_;clear BK699 HB;intro BK699 HB;(try clear hb)))
   go_ret2
   exact ⟨zE,zH1 HB.1 GE699.1⟩
  ·replace c6:=Bool.eq_false_iff.mpr c6
   subst c6
   have H1:(some (false,2))=some (r1,r2):=by rw [if_neg (show ¬ (false=true) by decide)] at H;exact H
   clear H
   have H:=H1
   clear H1
   simp only [Option.some.injEq,Prod.mk.injEq] at H
   obtain ⟨rfl,rfl⟩:=H
   go_enter Tryz.func25,Tryz.ntmps25
   go_wp2_with (first|((with_reducible refine gate_dst (N:=2) rfl ?_);refine zX 2 #[.int .i64 a0_0,.int .i64 a0_1,.int .i64 a0_2,.int .i64 a0_3] 25 ?_;intro gb699 hg w15 hbox hb;refine zA4 (below_step (zH HB.1) hb) (hbox) (zs hg HB:w.heap.size≤gb699) (zs hg HB:w.heap.size≤gb699) ?_;clear HB;intro HB BK699 GW699 GE699;clear hb hbox hg;obtain ⟨Z16_0,Z16_1,Z16_2,Z16_3⟩:=zc4 BK699;obtain ⟨V16_0,V16_1,V16_2,V16_3⟩:=zf4 BK699)|((with_reducible refine gate_callee (f:=47) rfl ?_);refine zL (some 8) Tryz.func47 #[.agg #[.int .i64 a0_0,.int .i64 a0_1,.int .i64 a0_2,.int .i64 a0_3]] ?_;(with_reducible refine (spec_l05Is.calls a0_0 a0_1 a0_2 a0_3 true _ A3.1).mono ?_);rintro e w17 ⟨rfl,hb⟩;refine ⟨_,rfl,?_⟩;refine zA2 (zY BK699.1 hb) (below_step (zH1 HB.1 GE699.1) hb) ?_;clear BK699 HB;intro BK699 HB;(try clear hb);obtain ⟨Z18_0,Z18_1,Z18_2,Z18_3⟩:=zc4 BK699;obtain ⟨V18_0,V18_1,V18_2,V18_3⟩:=zf4 BK699)|((with_reducible refine gate_callee (f:=61) rfl ?_);refine zL (some 14) Tryz.func61 #[.slice A1 l1.length c1,.int .i64 a0_0] ?_;(with_reducible refine (spec_l05Order.calls k _ _ l1 a0_0 false _ ?side1 ?side2 A5.1).mono ?_);(case side1=>repeat (first|exact (Kd.C_below HR1.1 HB.1)|(with_reducible refine Kd.C_alloc ?_ _)|(with_reducible refine Kd.C_drewN ?_ _)|(with_reducible refine Kd.C_drew ?_)));(case side2=>exact HC1.1);rintro e w19 ⟨rfl,hb⟩;refine ⟨_,rfl,?_⟩;refine zA2 (zY BK699.1 hb) (below_step (zH1 HB.1 GE699.1) hb) ?_;clear BK699 HB;intro BK699 HB;(try clear hb)))
   go_ret2
   exact ⟨zE,zH1 HB.1 GE699.1⟩
 ·replace c4:=Bool.eq_false_iff.mpr c4
  subst c4
  have H1:(some (false,1))=some (r1,r2):=by rw [if_neg (show ¬ (false=true) by decide)] at H;exact H
  clear H
  have H:=H1
  clear H1
  simp only [Option.some.injEq,Prod.mk.injEq] at H
  obtain ⟨rfl,rfl⟩:=H
  go_enter Tryz.func25,Tryz.ntmps25
  go_wp2_with (first|((with_reducible refine gate_dst (N:=2) rfl ?_);refine zX 2 #[.int .i64 a0_0,.int .i64 a0_1,.int .i64 a0_2,.int .i64 a0_3] 25 ?_;intro gb699 hg w20 hbox hb;refine zA4 (below_step (zH HB.1) hb) (hbox) (zs hg HB:w.heap.size≤gb699) (zs hg HB:w.heap.size≤gb699) ?_;clear HB;intro HB BK699 GW699 GE699;clear hb hbox hg;obtain ⟨Z21_0,Z21_1,Z21_2,Z21_3⟩:=zc4 BK699;obtain ⟨V21_0,V21_1,V21_2,V21_3⟩:=zf4 BK699)|((with_reducible refine gate_callee (f:=47) rfl ?_);refine zL (some 8) Tryz.func47 #[.agg #[.int .i64 a0_0,.int .i64 a0_1,.int .i64 a0_2,.int .i64 a0_3]] ?_;(with_reducible refine (spec_l05Is.calls a0_0 a0_1 a0_2 a0_3 false _ A3.1).mono ?_);rintro e w22 ⟨rfl,hb⟩;refine ⟨_,rfl,?_⟩;refine zA2 (zY BK699.1 hb) (below_step (zH1 HB.1 GE699.1) hb) ?_;clear BK699 HB;intro BK699 HB;(try clear hb)))
  go_ret2
  exact ⟨zE,zH1 HB.1 GE699.1⟩
end Go.Proofs.YtlmohkbimnhecaaGreat.Q
