import Derived.Test.YtlmohkbimnhecaaGreatQ0
import Derived.Test.YtlmohkbimnhecaaGreatSq
import Derived.Test.YtlmohkbimnhecaaGreatQ2
set_option maxHeartbeats 8000000
set_option maxRecDepth 100000
namespace Go.Proofs.YtlmohkbimnhecaaGreat.Q
open Go.RowKit Go.Proofs.YtlmohkbimnhecaaGreatW.PrintWords Go.Proofs.YtlmohkbimnhecaaGreatW.PrintLast Go.Proofs.YtlmohkbimnhecaaGreatW.PrintMore
attribute [local go_sem] max2_int min2_int max_two min_two max_three min_three max_four min_four
set_option linter.unusedVariables false
set_option linter.unusedSimpArgs false
def impl_IsField.f (a0_0:Int) (a0_1:Int) (a0_2:Int) (a0_3:Int):Option (Bool):=(impl_within.f a0_0 1 8).bind fun t281=>(if t281=true then ((impl_pairs.f a0_0).bind fun t282=>(if 0≤t282 then ((impl_within.f a0_1 0 (wrap64 ((shl .i64 1 t282)-1))).bind fun t283=>(if t283=true then (if 0≤a0_0 then ((impl_within.f a0_2 0 (wrap64 ((shl .i64 1 a0_0)-1))).bind fun t284=>(if t284=true then ((impl_within.f a0_3 0 (wrap64 ((shl .i64 1 a0_0)-1))).bind fun t285=>(if t285=true then (some ((Go.bits .and .i64 a0_2 a0_3)==0)) else (some false))) else (some false))) else (none)) else (some false))) else (none))) else (some false))
def impl_IsField.T1:Bool×List (List Nat×List Nat):=(true,[([],[]),([0],[0]),([1],[1]),([2,2],[2]),([3],[3]),([4,3],[3,4]),([3],[3]),([6,3],[3,6]),([7,3,3],[3,7]),([8,3],[3,8]),([9,3],[3,9]),([5,10,8,3],[3,5,10]),([3,11],[3,11]),([12,11],[12]),([13],[13]),([14,13],[13,14]),([13],[13]),([16,13],[13,16]),([17,13],[13,17]),([18,13],[13,18]),([15,19,13,13],[13,15,19]),([13,20],[13,20]),([21,20],[21]),([22],[22]),([23,22],[22,23]),([22],[22]),([25,22],[22,25]),([26,22],[22,26]),([27,22],[22,27]),([24,28,22,22],[22,24,28]),([22,29],[22,29]),([30,29],[30]),([31],[31]),([32,31],[31,32]),([31],[31]),([34,31],[31,34]),([33,35,31],[31,33,35]),([36,31],[31,36]),([31,37],[31,37]),([38,31,0,1,2,3,4,5,6,7,8,9,10,11,12,13,14,15,16,17,18,19,20,21,22,23,24,25,26,27,28,29,30,31,32,33,34,35,36,37,38],[38])])
def impl_IsField.B1:List Nat:=[0,1,3,7,15,31,15,79,207,463,975,2047,4095,8191,16383,32767,16383,81919,212991,475135,1048575,2097151,4194303,8388607,16777215,8388607,41943039,109051903,243269631,536870911,1073741823,2147483647,4294967295,8589934591,4294967295,21474836479,68719476735,137438953471,274877906943,549755813887]
theorem impl_IsField.tab1:rtab .any (opsOf Tryz.f37 1)=impl_IsField.T1:=by kernel_rfl
theorem impl_IsField.bits1:waitsOk impl_IsField.T1.2 impl_IsField.B1=true:=by kernel_rfl
theorem impl_IsField.calls (a0_0:Int) (a0_1:Int) (a0_2:Int) (a0_3:Int) (r:Bool) (w:World) (h:impl_IsField.f a0_0 a0_1 a0_2 a0_3=some r):
 Calls Tryz.prog 37 #[.agg #[.int .i64 a0_0,.int .i64 a0_1,.int .i64 a0_2,.int .i64 a0_3]] w fun e w'=>e=.returned (.bool r)∧Below w.heap.size w w':=by
 have hu25:=Tryz.underlying25
 have HB:=Aside0.mk (Below.refl w.heap.size w)
 have H:((impl_within.f a0_0 1 8).bind fun t281=>(if t281=true then ((impl_pairs.f a0_0).bind fun t282=>(if 0≤t282 then ((impl_within.f a0_1 0 (wrap64 ((shl .i64 1 t282)-1))).bind fun t283=>(if t283=true then (if 0≤a0_0 then ((impl_within.f a0_2 0 (wrap64 ((shl .i64 1 a0_0)-1))).bind fun t284=>(if t284=true then ((impl_within.f a0_3 0 (wrap64 ((shl .i64 1 a0_0)-1))).bind fun t285=>(if t285=true then (some ((Go.bits .and .i64 a0_2 a0_3)==0)) else (some false))) else (some false))) else (none)) else (some false))) else (none))) else (some false)))=some r:=h
 clear h
 obtain ⟨t281,A2,H⟩:=zb H
 by_cases c3:t281=true
 ·subst c3
  have H1:((impl_pairs.f a0_0).bind fun t282=>(if 0≤t282 then ((impl_within.f a0_1 0 (wrap64 ((shl .i64 1 t282)-1))).bind fun t283=>(if t283=true then (if 0≤a0_0 then ((impl_within.f a0_2 0 (wrap64 ((shl .i64 1 a0_0)-1))).bind fun t284=>(if t284=true then ((impl_within.f a0_3 0 (wrap64 ((shl .i64 1 a0_0)-1))).bind fun t285=>(if t285=true then (some ((Go.bits .and .i64 a0_2 a0_3)==0)) else (some false))) else (some false))) else (none)) else (some false))) else (none)))=some r:=by rw [if_pos rfl] at H;exact H
  clear H
  have H:=H1
  clear H1
  obtain ⟨t282,A4,H⟩:=zb H
  by_cases c5:0≤t282
  ·rw [if_pos c5] at H
   have c5b0:=eq_true c5
   have c5b1:=decide_eq_true c5
   clear c5
   obtain ⟨ji6,hji6⟩:=zj (shl .i64 1 t282)
   (first|rw [hji6] at H|simp only [hji6] at H)
   (try rw [hji6] at A2)
   (try rw [hji6] at A4)
   have hji6_:(IntKind.i64.wrap (1*2 ^ min t282.toNat 64))=ji6:=hji6
   have hji6z:t282≤64→(IntKind.i64.wrap (1*2 ^ t282.toNat))=ji6:=shl_small hji6
   have hji6u:(IntKind.i64.wrap (2 ^ min t282.toNat 64))=ji6:=by have h_:=hji6_;rw [Int.one_mul] at h_;exact h_
   have hji6v:t282≤64→(IntKind.i64.wrap (2 ^ t282.toNat))=ji6:=fun hle_=>by have h_:=hji6z hle_;rw [Int.one_mul] at h_;exact h_
   have hji6y:(wrap64 (1*2 ^ min t282.toNat 64))=ji6:=(i64_w _).symm.trans hji6_
   have hji6x:t282≤64→(wrap64 (1*2 ^ t282.toNat))=ji6:=fun h_=>(i64_w _).symm.trans (hji6z h_)
   obtain ⟨t283,A7,H⟩:=zb H
   by_cases c8:t283=true
   ·subst c8
    have H1:(if 0≤a0_0 then ((impl_within.f a0_2 0 (wrap64 ((shl .i64 1 a0_0)-1))).bind fun t284=>(if t284=true then ((impl_within.f a0_3 0 (wrap64 ((shl .i64 1 a0_0)-1))).bind fun t285=>(if t285=true then (some ((Go.bits .and .i64 a0_2 a0_3)==0)) else (some false))) else (some false))) else (none))=some r:=by rw [if_pos rfl] at H;exact H
    clear H
    have H:=H1
    clear H1
    by_cases c9:0≤a0_0
    ·rw [if_pos c9] at H
     have c9b0:=eq_true c9
     have c9b1:=decide_eq_true c9
     clear c9
     obtain ⟨ji10,hji10⟩:=zj (shl .i64 1 a0_0)
     (first|rw [hji10] at H|simp only [hji10] at H)
     (try rw [hji10] at A2)
     (try rw [hji10] at A4)
     (try rw [hji10] at A7)
     have hji10_:(IntKind.i64.wrap (1*2 ^ min a0_0.toNat 64))=ji10:=hji10
     have hji10z:a0_0≤64→(IntKind.i64.wrap (1*2 ^ a0_0.toNat))=ji10:=shl_small hji10
     have hji10u:(IntKind.i64.wrap (2 ^ min a0_0.toNat 64))=ji10:=by have h_:=hji10_;rw [Int.one_mul] at h_;exact h_
     have hji10v:a0_0≤64→(IntKind.i64.wrap (2 ^ a0_0.toNat))=ji10:=fun hle_=>by have h_:=hji10z hle_;rw [Int.one_mul] at h_;exact h_
     have hji10y:(wrap64 (1*2 ^ min a0_0.toNat 64))=ji10:=(i64_w _).symm.trans hji10_
     have hji10x:a0_0≤64→(wrap64 (1*2 ^ a0_0.toNat))=ji10:=fun h_=>(i64_w _).symm.trans (hji10z h_)
     obtain ⟨t284,A11,H⟩:=zb H
     by_cases c12:t284=true
     ·subst c12
      have H1:((impl_within.f a0_3 0 (wrap64 ((ji10)-1))).bind fun t285=>(if t285=true then (some ((Go.bits .and .i64 a0_2 a0_3)==0)) else (some false)))=some r:=by rw [if_pos rfl] at H;exact H
      clear H
      have H:=H1
      clear H1
      have c13b0:=eq_true (zo:0≤a0_0)
      obtain ⟨t285,A14,H⟩:=zb H
      by_cases c15:t285=true
      ·subst c15
       have H1:(some ((Go.bits .and .i64 a0_2 a0_3)==0))=some r:=by rw [if_pos rfl] at H;exact H
       clear H
       have H:=H1
       clear H1
       obtain rfl:=Option.some.inj H
       go_enter Tryz.func37,Tryz.ntmps37
       try go_wp2_with (first|((with_reducible refine gate_dst (N:=1) rfl ?_);refine zX 1 #[.int .i64 a0_0,.int .i64 a0_1,.int .i64 a0_2,.int .i64 a0_3] 25 ?_;intro gb280 hg w16 hbox hb;refine zA4 (below_step (zH HB.1) hb) (hbox) (zs hg HB:w.heap.size≤gb280) (zs hg HB:w.heap.size≤gb280) ?_;clear HB;intro HB BK280 GW280 GE280;clear hb hbox hg))
       refine zA2 (blk_drew BK280.1) (below_drew1 HB.1) ?_
       clear BK280 HB
       intro BK280 HB
       refine start_ (n:=40) (S:=fun w'=>w'.cell? ⟨gb280,0,none⟩=some (.int .i64 a0_0)∧w'.cell? ⟨gb280,1,none⟩=some (.int .i64 a0_1)∧w'.cell? ⟨gb280,2,none⟩=some (.int .i64 a0_2)∧w'.cell? ⟨gb280,3,none⟩=some (.int .i64 a0_3)) (ds:=[]) #[false,false,false,false,false,false,false,false,false,false,false,false,false,false,false,false,false,false,false,false,false,false,false,false,false,false,false,false,false,false,false,false,false,false,false,false,false,false,false,false] (by kernel_rfl) rfl rfl ⟨zx BK280 0,zx BK280 1,zx BK280 2,zx BK280 3⟩ (fun hHeld=>?_);refine with_tabW impl_IsField.tab1 impl_IsField.bits1 (fun HT_ HW_=>?_)
       generalize w16.drew=w17 at BK280 HB hHeld ⊢
       refine zP HT_ 0 (some 3) rfl rfl ?_
       refine zT HT_ HW_ hHeld 1 (some 4) rfl rfl ?_
       refine one_ (i:=2) (N:=some 5) #[true,true,true,false,false,false,false,false,false,false,false,false,false,false,false,false,false,false,false,false,false,false,false,false,false,false,false,false,false,false,false,false,false,false,false,false,false,false,false,false] rfl rfl (one_of HT_.1 (by kernel_rfl)) (by decide) (fun K hK=>?_)
       refine goes_ Tryz.func39 (by kernel_rfl) rfl #[.int .i64 a0_0,.int .i64 1,.int .i64 8] (by rfl) rfl rfl zM ?_
       with_reducible refine (impl_within.calls a0_0 1 8 true _ A2.1).mono ?_
       rintro e w' ⟨rfl,⟨nd,rfl⟩⟩
       refine ⟨_,rfl,?_⟩
       refine hK.out _ _ ⟨zx BK280 0,zx BK280 1,zx BK280 2,zx BK280 3⟩ (fun hHeld=>?_)
       clear hK K
       refine zW (some 5) ?_
       refine zP HT_ 3 (some 6) rfl rfl ?_
       refine zP HT_ 4 (some 7) rfl rfl ?_
       refine zP HT_ 6 (some 9) rfl rfl ?_
       refine zT HT_ HW_ hHeld 5 (some 8) rfl rfl ?_
       refine zT HT_ HW_ hHeld 7 (some 10) rfl rfl ?_
       refine one_ (i:=8) (N:=some 11) #[true,true,true,true,true,true,true,true,true,false,false,false,false,false,false,false,false,false,false,false,false,false,false,false,false,false,false,false,false,false,false,false,false,false,false,false,false,false,false,false] rfl rfl (one_of HT_.1 (by kernel_rfl)) (by decide) (fun K hK=>?_)
       refine goes_ Tryz.func77 (by kernel_rfl) rfl #[.int .i64 a0_0] (by rfl) rfl rfl zM ?_
       with_reducible refine (impl_pairs.calls a0_0 t282 _ A4.1).mono ?_
       rintro e w' ⟨rfl,⟨nd,rfl⟩⟩
       refine ⟨_,rfl,?_⟩
       refine hK.out _ _ ⟨zx BK280 0,zx BK280 1,zx BK280 2,zx BK280 3⟩ (fun hHeld=>?_)
       clear hK K
       refine zW (some 11) ?_
       refine zP HT_ 9 (some 12) rfl rfl ?_
       refine zP HT_ 10 (some 13) rfl rfl ?_
       refine one_ (i:=11) (N:=some 14) #[true,true,true,true,true,true,true,true,true,true,true,true,false,false,false,false,false,false,false,false,false,false,false,false,false,false,false,false,false,false,false,false,false,false,false,false,false,false,false,false] rfl rfl (one_of HT_.1 (by kernel_rfl)) (by decide) (fun K hK=>?_)
       refine goes_ Tryz.func39 (by kernel_rfl) rfl #[.int .i64 a0_1,.int .i64 0,.int .i64 (wrap64 ((ji6)-1))] (by rfl) rfl rfl (zM1 hji6) ?_
       with_reducible refine (impl_within.calls a0_1 0 (wrap64 ((ji6)-1)) true _ A7.1).mono ?_
       rintro e w' ⟨rfl,⟨nd,rfl⟩⟩
       refine ⟨_,rfl,?_⟩
       refine hK.out _ _ ⟨zx BK280 0,zx BK280 1,zx BK280 2,zx BK280 3⟩ (fun hHeld=>?_)
       clear hK K
       refine zW (some 14) ?_
       refine zP HT_ 12 (some 15) rfl rfl ?_
       refine zP HT_ 13 (some 16) rfl rfl ?_
       refine zP HT_ 14 (some 17) rfl rfl ?_
       refine zP HT_ 16 (some 19) rfl rfl ?_
       refine zT HT_ HW_ hHeld 15 (some 18) rfl rfl ?_
       refine zT HT_ HW_ hHeld 17 (some 20) rfl rfl ?_
       refine zP HT_ 18 (some 21) rfl rfl ?_
       refine zP HT_ 19 (some 22) rfl rfl ?_
       refine one_ (i:=20) (N:=some 23) #[true,true,true,true,true,true,true,true,true,true,true,true,true,true,true,true,true,true,true,true,true,false,false,false,false,false,false,false,false,false,false,false,false,false,false,false,false,false,false,false] rfl rfl (one_of HT_.1 (by kernel_rfl)) (by decide) (fun K hK=>?_)
       refine goes_ Tryz.func39 (by kernel_rfl) rfl #[.int .i64 a0_2,.int .i64 0,.int .i64 (wrap64 ((ji10)-1))] (by rfl) rfl rfl (zM1 hji10) ?_
       with_reducible refine (impl_within.calls a0_2 0 (wrap64 ((ji10)-1)) true _ A11.1).mono ?_
       rintro e w' ⟨rfl,⟨nd,rfl⟩⟩
       refine ⟨_,rfl,?_⟩
       refine hK.out _ _ ⟨zx BK280 0,zx BK280 1,zx BK280 2,zx BK280 3⟩ (fun hHeld=>?_)
       clear hK K
       refine zW (some 23) ?_
       refine zP HT_ 21 (some 24) rfl rfl ?_
       refine zP HT_ 22 (some 25) rfl rfl ?_
       refine zP HT_ 23 (some 26) rfl rfl ?_
       refine zP HT_ 25 (some 28) rfl rfl ?_
       refine zT HT_ HW_ hHeld 24 (some 27) rfl rfl ?_
       refine zT HT_ HW_ hHeld 26 (some 29) rfl rfl ?_
       refine zP HT_ 27 (some 30) rfl rfl ?_
       refine zP HT_ 28 (some 31) rfl rfl ?_
       refine one_ (i:=29) (N:=some 32) #[true,true,true,true,true,true,true,true,true,true,true,true,true,true,true,true,true,true,true,true,true,true,true,true,true,true,true,true,true,true,false,false,false,false,false,false,false,false,false,false] rfl rfl (one_of HT_.1 (by kernel_rfl)) (by decide) (fun K hK=>?_)
       refine goes_ Tryz.func39 (by kernel_rfl) rfl #[.int .i64 a0_3,.int .i64 0,.int .i64 (wrap64 ((ji10)-1))] (by rfl) rfl rfl (zM1 hji10) ?_
       with_reducible refine (impl_within.calls a0_3 0 (wrap64 ((ji10)-1)) true _ A14.1).mono ?_
       rintro e w' ⟨rfl,⟨nd,rfl⟩⟩
       refine ⟨_,rfl,?_⟩
       refine hK.out _ _ ⟨zx BK280 0,zx BK280 1,zx BK280 2,zx BK280 3⟩ (fun hHeld=>?_)
       clear hK K
       refine zW (some 32) ?_
       refine zP HT_ 30 (some 33) rfl rfl ?_
       refine zP HT_ 31 (some 34) rfl rfl ?_
       refine zP HT_ 32 (some 35) rfl rfl ?_
       refine zP HT_ 34 (some 37) rfl rfl ?_
       refine zT HT_ HW_ hHeld 33 (some 36) rfl rfl ?_
       refine zT HT_ HW_ hHeld 35 (some 38) rfl rfl ?_
       refine zP HT_ 36 (some 39) rfl rfl ?_
       refine zP HT_ 37 (some 40) rfl rfl ?_
       refine zP HT_ 38 (some 41) rfl rfl ?_
       refine zP HT_ 39 (some 2) rfl rfl ?_
       refine done_ (done_of HT_.1 (by kernel_rfl)) ?_
       try go_wp2
       go_ret
       exact ⟨by first|rfl|(simp [errW_none,errW_some] <;> rfl)|(simp only [← hji6,← hji10];first|rfl|(simp [errW_none,errW_some] <;> rfl))|(simp [*,errW_none,errW_some] <;> rfl),zH1 HB.1 GE280.1⟩
      ·replace c15:=Bool.eq_false_iff.mpr c15
       subst c15
       have H1:(some false)=some r:=by rw [if_neg (show ¬ (false=true) by decide)] at H;exact H
       clear H
       have H:=H1
       clear H1
       obtain rfl:=Option.some.inj H
       go_enter Tryz.func37,Tryz.ntmps37
       try go_wp2_with (first|((with_reducible refine gate_dst (N:=1) rfl ?_);refine zX 1 #[.int .i64 a0_0,.int .i64 a0_1,.int .i64 a0_2,.int .i64 a0_3] 25 ?_;intro gb280 hg w18 hbox hb;refine zA4 (below_step (zH HB.1) hb) (hbox) (zs hg HB:w.heap.size≤gb280) (zs hg HB:w.heap.size≤gb280) ?_;clear HB;intro HB BK280 GW280 GE280;clear hb hbox hg))
       refine zA2 (blk_drew BK280.1) (below_drew1 HB.1) ?_
       clear BK280 HB
       intro BK280 HB
       refine start_ (n:=40) (S:=fun w'=>w'.cell? ⟨gb280,0,none⟩=some (.int .i64 a0_0)∧w'.cell? ⟨gb280,1,none⟩=some (.int .i64 a0_1)∧w'.cell? ⟨gb280,2,none⟩=some (.int .i64 a0_2)∧w'.cell? ⟨gb280,3,none⟩=some (.int .i64 a0_3)) (ds:=[]) #[false,false,false,false,false,false,false,false,false,false,false,false,false,false,false,false,false,false,false,false,false,false,false,false,false,false,false,false,false,false,false,false,false,false,false,false,false,false,false,false] (by kernel_rfl) rfl rfl ⟨zx BK280 0,zx BK280 1,zx BK280 2,zx BK280 3⟩ (fun hHeld=>?_);refine with_tabW impl_IsField.tab1 impl_IsField.bits1 (fun HT_ HW_=>?_)
       generalize w18.drew=w19 at BK280 HB hHeld ⊢
       refine zP HT_ 0 (some 3) rfl rfl ?_
       refine zT HT_ HW_ hHeld 1 (some 4) rfl rfl ?_
       refine one_ (i:=2) (N:=some 5) #[true,true,true,false,false,false,false,false,false,false,false,false,false,false,false,false,false,false,false,false,false,false,false,false,false,false,false,false,false,false,false,false,false,false,false,false,false,false,false,false] rfl rfl (one_of HT_.1 (by kernel_rfl)) (by decide) (fun K hK=>?_)
       refine goes_ Tryz.func39 (by kernel_rfl) rfl #[.int .i64 a0_0,.int .i64 1,.int .i64 8] (by rfl) rfl rfl zM ?_
       with_reducible refine (impl_within.calls a0_0 1 8 true _ A2.1).mono ?_
       rintro e w' ⟨rfl,⟨nd,rfl⟩⟩
       refine ⟨_,rfl,?_⟩
       refine hK.out _ _ ⟨zx BK280 0,zx BK280 1,zx BK280 2,zx BK280 3⟩ (fun hHeld=>?_)
       clear hK K
       refine zW (some 5) ?_
       refine zP HT_ 3 (some 6) rfl rfl ?_
       refine zP HT_ 4 (some 7) rfl rfl ?_
       refine zP HT_ 6 (some 9) rfl rfl ?_
       refine zT HT_ HW_ hHeld 5 (some 8) rfl rfl ?_
       refine zT HT_ HW_ hHeld 7 (some 10) rfl rfl ?_
       refine one_ (i:=8) (N:=some 11) #[true,true,true,true,true,true,true,true,true,false,false,false,false,false,false,false,false,false,false,false,false,false,false,false,false,false,false,false,false,false,false,false,false,false,false,false,false,false,false,false] rfl rfl (one_of HT_.1 (by kernel_rfl)) (by decide) (fun K hK=>?_)
       refine goes_ Tryz.func77 (by kernel_rfl) rfl #[.int .i64 a0_0] (by rfl) rfl rfl zM ?_
       with_reducible refine (impl_pairs.calls a0_0 t282 _ A4.1).mono ?_
       rintro e w' ⟨rfl,⟨nd,rfl⟩⟩
       refine ⟨_,rfl,?_⟩
       refine hK.out _ _ ⟨zx BK280 0,zx BK280 1,zx BK280 2,zx BK280 3⟩ (fun hHeld=>?_)
       clear hK K
       refine zW (some 11) ?_
       refine zP HT_ 9 (some 12) rfl rfl ?_
       refine zP HT_ 10 (some 13) rfl rfl ?_
       refine one_ (i:=11) (N:=some 14) #[true,true,true,true,true,true,true,true,true,true,true,true,false,false,false,false,false,false,false,false,false,false,false,false,false,false,false,false,false,false,false,false,false,false,false,false,false,false,false,false] rfl rfl (one_of HT_.1 (by kernel_rfl)) (by decide) (fun K hK=>?_)
       refine goes_ Tryz.func39 (by kernel_rfl) rfl #[.int .i64 a0_1,.int .i64 0,.int .i64 (wrap64 ((ji6)-1))] (by rfl) rfl rfl (zM1 hji6) ?_
       with_reducible refine (impl_within.calls a0_1 0 (wrap64 ((ji6)-1)) true _ A7.1).mono ?_
       rintro e w' ⟨rfl,⟨nd,rfl⟩⟩
       refine ⟨_,rfl,?_⟩
       refine hK.out _ _ ⟨zx BK280 0,zx BK280 1,zx BK280 2,zx BK280 3⟩ (fun hHeld=>?_)
       clear hK K
       refine zW (some 14) ?_
       refine zP HT_ 12 (some 15) rfl rfl ?_
       refine zP HT_ 13 (some 16) rfl rfl ?_
       refine zP HT_ 14 (some 17) rfl rfl ?_
       refine zP HT_ 16 (some 19) rfl rfl ?_
       refine zT HT_ HW_ hHeld 15 (some 18) rfl rfl ?_
       refine zT HT_ HW_ hHeld 17 (some 20) rfl rfl ?_
       refine zP HT_ 18 (some 21) rfl rfl ?_
       refine zP HT_ 19 (some 22) rfl rfl ?_
       refine one_ (i:=20) (N:=some 23) #[true,true,true,true,true,true,true,true,true,true,true,true,true,true,true,true,true,true,true,true,true,false,false,false,false,false,false,false,false,false,false,false,false,false,false,false,false,false,false,false] rfl rfl (one_of HT_.1 (by kernel_rfl)) (by decide) (fun K hK=>?_)
       refine goes_ Tryz.func39 (by kernel_rfl) rfl #[.int .i64 a0_2,.int .i64 0,.int .i64 (wrap64 ((ji10)-1))] (by rfl) rfl rfl (zM1 hji10) ?_
       with_reducible refine (impl_within.calls a0_2 0 (wrap64 ((ji10)-1)) true _ A11.1).mono ?_
       rintro e w' ⟨rfl,⟨nd,rfl⟩⟩
       refine ⟨_,rfl,?_⟩
       refine hK.out _ _ ⟨zx BK280 0,zx BK280 1,zx BK280 2,zx BK280 3⟩ (fun hHeld=>?_)
       clear hK K
       refine zW (some 23) ?_
       refine zP HT_ 21 (some 24) rfl rfl ?_
       refine zP HT_ 22 (some 25) rfl rfl ?_
       refine zP HT_ 23 (some 26) rfl rfl ?_
       refine zP HT_ 25 (some 28) rfl rfl ?_
       refine zT HT_ HW_ hHeld 24 (some 27) rfl rfl ?_
       refine zT HT_ HW_ hHeld 26 (some 29) rfl rfl ?_
       refine zP HT_ 27 (some 30) rfl rfl ?_
       refine zP HT_ 28 (some 31) rfl rfl ?_
       refine one_ (i:=29) (N:=some 32) #[true,true,true,true,true,true,true,true,true,true,true,true,true,true,true,true,true,true,true,true,true,true,true,true,true,true,true,true,true,true,false,false,false,false,false,false,false,false,false,false] rfl rfl (one_of HT_.1 (by kernel_rfl)) (by decide) (fun K hK=>?_)
       refine goes_ Tryz.func39 (by kernel_rfl) rfl #[.int .i64 a0_3,.int .i64 0,.int .i64 (wrap64 ((ji10)-1))] (by rfl) rfl rfl (zM1 hji10) ?_
       with_reducible refine (impl_within.calls a0_3 0 (wrap64 ((ji10)-1)) false _ A14.1).mono ?_
       rintro e w' ⟨rfl,⟨nd,rfl⟩⟩
       refine ⟨_,rfl,?_⟩
       refine hK.out _ _ ⟨zx BK280 0,zx BK280 1,zx BK280 2,zx BK280 3⟩ (fun hHeld=>?_)
       clear hK K
       refine zW (some 32) ?_
       refine zP HT_ 30 (some 33) rfl rfl ?_
       refine zP HT_ 31 (some 34) rfl rfl ?_
       refine zU HT_ 32 (some 35) rfl rfl ?_
       refine zU HT_ 33 (some 36) rfl rfl ?_
       refine zU HT_ 34 (some 37) rfl rfl ?_
       refine zU HT_ 35 (some 38) rfl rfl ?_
       refine zU HT_ 36 (some 39) rfl rfl ?_
       refine zU HT_ 37 (some 40) rfl rfl ?_
       refine zP HT_ 38 (some 41) rfl rfl ?_
       refine zP HT_ 39 (some 2) rfl rfl ?_
       refine done_ (done_of HT_.1 (by kernel_rfl)) ?_
       try go_wp2
       go_ret
       exact ⟨by first|rfl|(simp [errW_none,errW_some] <;> rfl)|(simp only [← hji6,← hji10];first|rfl|(simp [errW_none,errW_some] <;> rfl))|(simp [*,errW_none,errW_some] <;> rfl),zH1 HB.1 GE280.1⟩
     ·replace c12:=Bool.eq_false_iff.mpr c12
      subst c12
      have H1:(some false)=some r:=by rw [if_neg (show ¬ (false=true) by decide)] at H;exact H
      clear H
      have H:=H1
      clear H1
      obtain rfl:=Option.some.inj H
      go_enter Tryz.func37,Tryz.ntmps37
      try go_wp2_with (first|((with_reducible refine gate_dst (N:=1) rfl ?_);refine zX 1 #[.int .i64 a0_0,.int .i64 a0_1,.int .i64 a0_2,.int .i64 a0_3] 25 ?_;intro gb280 hg w20 hbox hb;refine zA4 (below_step (zH HB.1) hb) (hbox) (zs hg HB:w.heap.size≤gb280) (zs hg HB:w.heap.size≤gb280) ?_;clear HB;intro HB BK280 GW280 GE280;clear hb hbox hg))
      refine zA2 (blk_drew BK280.1) (below_drew1 HB.1) ?_
      clear BK280 HB
      intro BK280 HB
      refine start_ (n:=40) (S:=fun w'=>w'.cell? ⟨gb280,0,none⟩=some (.int .i64 a0_0)∧w'.cell? ⟨gb280,1,none⟩=some (.int .i64 a0_1)∧w'.cell? ⟨gb280,2,none⟩=some (.int .i64 a0_2)∧w'.cell? ⟨gb280,3,none⟩=some (.int .i64 a0_3)) (ds:=[]) #[false,false,false,false,false,false,false,false,false,false,false,false,false,false,false,false,false,false,false,false,false,false,false,false,false,false,false,false,false,false,false,false,false,false,false,false,false,false,false,false] (by kernel_rfl) rfl rfl ⟨zx BK280 0,zx BK280 1,zx BK280 2,zx BK280 3⟩ (fun hHeld=>?_);refine with_tabW impl_IsField.tab1 impl_IsField.bits1 (fun HT_ HW_=>?_)
      generalize w20.drew=w21 at BK280 HB hHeld ⊢
      refine zP HT_ 0 (some 3) rfl rfl ?_
      refine zT HT_ HW_ hHeld 1 (some 4) rfl rfl ?_
      refine one_ (i:=2) (N:=some 5) #[true,true,true,false,false,false,false,false,false,false,false,false,false,false,false,false,false,false,false,false,false,false,false,false,false,false,false,false,false,false,false,false,false,false,false,false,false,false,false,false] rfl rfl (one_of HT_.1 (by kernel_rfl)) (by decide) (fun K hK=>?_)
      refine goes_ Tryz.func39 (by kernel_rfl) rfl #[.int .i64 a0_0,.int .i64 1,.int .i64 8] (by rfl) rfl rfl zM ?_
      with_reducible refine (impl_within.calls a0_0 1 8 true _ A2.1).mono ?_
      rintro e w' ⟨rfl,⟨nd,rfl⟩⟩
      refine ⟨_,rfl,?_⟩
      refine hK.out _ _ ⟨zx BK280 0,zx BK280 1,zx BK280 2,zx BK280 3⟩ (fun hHeld=>?_)
      clear hK K
      refine zW (some 5) ?_
      refine zP HT_ 3 (some 6) rfl rfl ?_
      refine zP HT_ 4 (some 7) rfl rfl ?_
      refine zP HT_ 6 (some 9) rfl rfl ?_
      refine zT HT_ HW_ hHeld 5 (some 8) rfl rfl ?_
      refine zT HT_ HW_ hHeld 7 (some 10) rfl rfl ?_
      refine one_ (i:=8) (N:=some 11) #[true,true,true,true,true,true,true,true,true,false,false,false,false,false,false,false,false,false,false,false,false,false,false,false,false,false,false,false,false,false,false,false,false,false,false,false,false,false,false,false] rfl rfl (one_of HT_.1 (by kernel_rfl)) (by decide) (fun K hK=>?_)
      refine goes_ Tryz.func77 (by kernel_rfl) rfl #[.int .i64 a0_0] (by rfl) rfl rfl zM ?_
      with_reducible refine (impl_pairs.calls a0_0 t282 _ A4.1).mono ?_
      rintro e w' ⟨rfl,⟨nd,rfl⟩⟩
      refine ⟨_,rfl,?_⟩
      refine hK.out _ _ ⟨zx BK280 0,zx BK280 1,zx BK280 2,zx BK280 3⟩ (fun hHeld=>?_)
      clear hK K
      refine zW (some 11) ?_
      refine zP HT_ 9 (some 12) rfl rfl ?_
      refine zP HT_ 10 (some 13) rfl rfl ?_
      refine one_ (i:=11) (N:=some 14) #[true,true,true,true,true,true,true,true,true,true,true,true,false,false,false,false,false,false,false,false,false,false,false,false,false,false,false,false,false,false,false,false,false,false,false,false,false,false,false,false] rfl rfl (one_of HT_.1 (by kernel_rfl)) (by decide) (fun K hK=>?_)
      refine goes_ Tryz.func39 (by kernel_rfl) rfl #[.int .i64 a0_1,.int .i64 0,.int .i64 (wrap64 ((ji6)-1))] (by rfl) rfl rfl (zM1 hji6) ?_
      with_reducible refine (impl_within.calls a0_1 0 (wrap64 ((ji6)-1)) true _ A7.1).mono ?_
      rintro e w' ⟨rfl,⟨nd,rfl⟩⟩
      refine ⟨_,rfl,?_⟩
      refine hK.out _ _ ⟨zx BK280 0,zx BK280 1,zx BK280 2,zx BK280 3⟩ (fun hHeld=>?_)
      clear hK K
      refine zW (some 14) ?_
      refine zP HT_ 12 (some 15) rfl rfl ?_
      refine zP HT_ 13 (some 16) rfl rfl ?_
      refine zP HT_ 14 (some 17) rfl rfl ?_
      refine zP HT_ 16 (some 19) rfl rfl ?_
      refine zT HT_ HW_ hHeld 15 (some 18) rfl rfl ?_
      refine zT HT_ HW_ hHeld 17 (some 20) rfl rfl ?_
      refine zP HT_ 18 (some 21) rfl rfl ?_
      refine zP HT_ 19 (some 22) rfl rfl ?_
      refine one_ (i:=20) (N:=some 23) #[true,true,true,true,true,true,true,true,true,true,true,true,true,true,true,true,true,true,true,true,true,false,false,false,false,false,false,false,false,false,false,false,false,false,false,false,false,false,false,false] rfl rfl (one_of HT_.1 (by kernel_rfl)) (by decide) (fun K hK=>?_)
      refine goes_ Tryz.func39 (by kernel_rfl) rfl #[.int .i64 a0_2,.int .i64 0,.int .i64 (wrap64 ((ji10)-1))] (by rfl) rfl rfl (zM1 hji10) ?_
      with_reducible refine (impl_within.calls a0_2 0 (wrap64 ((ji10)-1)) false _ A11.1).mono ?_
      rintro e w' ⟨rfl,⟨nd,rfl⟩⟩
      refine ⟨_,rfl,?_⟩
      refine hK.out _ _ ⟨zx BK280 0,zx BK280 1,zx BK280 2,zx BK280 3⟩ (fun hHeld=>?_)
      clear hK K
      refine zW (some 23) ?_
      refine zP HT_ 21 (some 24) rfl rfl ?_
      refine zP HT_ 22 (some 25) rfl rfl ?_
      refine zU HT_ 23 (some 26) rfl rfl ?_
      refine zU HT_ 24 (some 27) rfl rfl ?_
      refine zU HT_ 25 (some 28) rfl rfl ?_
      refine zU HT_ 26 (some 29) rfl rfl ?_
      refine zU HT_ 27 (some 30) rfl rfl ?_
      refine zU HT_ 28 (some 31) rfl rfl ?_
      refine zU HT_ 29 (some 32) rfl rfl ?_
      refine zP HT_ 30 (some 33) rfl rfl ?_
      refine zP HT_ 31 (some 34) rfl rfl ?_
      refine zU HT_ 32 (some 35) rfl rfl ?_
      refine zU HT_ 33 (some 36) rfl rfl ?_
      refine zU HT_ 34 (some 37) rfl rfl ?_
      refine zU HT_ 35 (some 38) rfl rfl ?_
      refine zU HT_ 36 (some 39) rfl rfl ?_
      refine zU HT_ 37 (some 40) rfl rfl ?_
      refine zP HT_ 38 (some 41) rfl rfl ?_
      refine zP HT_ 39 (some 2) rfl rfl ?_
      refine done_ (done_of HT_.1 (by kernel_rfl)) ?_
      try go_wp2
      go_ret
      exact ⟨by first|rfl|(simp [errW_none,errW_some] <;> rfl)|(simp only [← hji6,← hji10];first|rfl|(simp [errW_none,errW_some] <;> rfl))|(simp [*,errW_none,errW_some] <;> rfl),zH1 HB.1 GE280.1⟩
    ·rw [if_neg c9] at H
     exact absurd H (by simp)
   ·replace c8:=Bool.eq_false_iff.mpr c8
    subst c8
    have H1:(some false)=some r:=by rw [if_neg (show ¬ (false=true) by decide)] at H;exact H
    clear H
    have H:=H1
    clear H1
    obtain rfl:=Option.some.inj H
    go_enter Tryz.func37,Tryz.ntmps37
    try go_wp2_with (first|((with_reducible refine gate_dst (N:=1) rfl ?_);refine zX 1 #[.int .i64 a0_0,.int .i64 a0_1,.int .i64 a0_2,.int .i64 a0_3] 25 ?_;intro gb280 hg w22 hbox hb;refine zA4 (below_step (zH HB.1) hb) (hbox) (zs hg HB:w.heap.size≤gb280) (zs hg HB:w.heap.size≤gb280) ?_;clear HB;intro HB BK280 GW280 GE280;clear hb hbox hg))
    refine zA2 (blk_drew BK280.1) (below_drew1 HB.1) ?_
    clear BK280 HB
    intro BK280 HB
    refine start_ (n:=40) (S:=fun w'=>w'.cell? ⟨gb280,0,none⟩=some (.int .i64 a0_0)∧w'.cell? ⟨gb280,1,none⟩=some (.int .i64 a0_1)∧w'.cell? ⟨gb280,2,none⟩=some (.int .i64 a0_2)∧w'.cell? ⟨gb280,3,none⟩=some (.int .i64 a0_3)) (ds:=[]) #[false,false,false,false,false,false,false,false,false,false,false,false,false,false,false,false,false,false,false,false,false,false,false,false,false,false,false,false,false,false,false,false,false,false,false,false,false,false,false,false] (by kernel_rfl) rfl rfl ⟨zx BK280 0,zx BK280 1,zx BK280 2,zx BK280 3⟩ (fun hHeld=>?_);refine with_tabW impl_IsField.tab1 impl_IsField.bits1 (fun HT_ HW_=>?_)
    generalize w22.drew=w23 at BK280 HB hHeld ⊢
    refine zP HT_ 0 (some 3) rfl rfl ?_
    refine zT HT_ HW_ hHeld 1 (some 4) rfl rfl ?_
    refine one_ (i:=2) (N:=some 5) #[true,true,true,false,false,false,false,false,false,false,false,false,false,false,false,false,false,false,false,false,false,false,false,false,false,false,false,false,false,false,false,false,false,false,false,false,false,false,false,false] rfl rfl (one_of HT_.1 (by kernel_rfl)) (by decide) (fun K hK=>?_)
    refine goes_ Tryz.func39 (by kernel_rfl) rfl #[.int .i64 a0_0,.int .i64 1,.int .i64 8] (by rfl) rfl rfl zM ?_
    with_reducible refine (impl_within.calls a0_0 1 8 true _ A2.1).mono ?_
    rintro e w' ⟨rfl,⟨nd,rfl⟩⟩
    refine ⟨_,rfl,?_⟩
    refine hK.out _ _ ⟨zx BK280 0,zx BK280 1,zx BK280 2,zx BK280 3⟩ (fun hHeld=>?_)
    clear hK K
    refine zW (some 5) ?_
    refine zP HT_ 3 (some 6) rfl rfl ?_
    refine zP HT_ 4 (some 7) rfl rfl ?_
    refine zP HT_ 6 (some 9) rfl rfl ?_
    refine zT HT_ HW_ hHeld 5 (some 8) rfl rfl ?_
    refine zT HT_ HW_ hHeld 7 (some 10) rfl rfl ?_
    refine one_ (i:=8) (N:=some 11) #[true,true,true,true,true,true,true,true,true,false,false,false,false,false,false,false,false,false,false,false,false,false,false,false,false,false,false,false,false,false,false,false,false,false,false,false,false,false,false,false] rfl rfl (one_of HT_.1 (by kernel_rfl)) (by decide) (fun K hK=>?_)
    refine goes_ Tryz.func77 (by kernel_rfl) rfl #[.int .i64 a0_0] (by rfl) rfl rfl zM ?_
    with_reducible refine (impl_pairs.calls a0_0 t282 _ A4.1).mono ?_
    rintro e w' ⟨rfl,⟨nd,rfl⟩⟩
    refine ⟨_,rfl,?_⟩
    refine hK.out _ _ ⟨zx BK280 0,zx BK280 1,zx BK280 2,zx BK280 3⟩ (fun hHeld=>?_)
    clear hK K
    refine zW (some 11) ?_
    refine zP HT_ 9 (some 12) rfl rfl ?_
    refine zP HT_ 10 (some 13) rfl rfl ?_
    refine one_ (i:=11) (N:=some 14) #[true,true,true,true,true,true,true,true,true,true,true,true,false,false,false,false,false,false,false,false,false,false,false,false,false,false,false,false,false,false,false,false,false,false,false,false,false,false,false,false] rfl rfl (one_of HT_.1 (by kernel_rfl)) (by decide) (fun K hK=>?_)
    refine goes_ Tryz.func39 (by kernel_rfl) rfl #[.int .i64 a0_1,.int .i64 0,.int .i64 (wrap64 ((ji6)-1))] (by rfl) rfl rfl (zM1 hji6) ?_
    with_reducible refine (impl_within.calls a0_1 0 (wrap64 ((ji6)-1)) false _ A7.1).mono ?_
    rintro e w' ⟨rfl,⟨nd,rfl⟩⟩
    refine ⟨_,rfl,?_⟩
    refine hK.out _ _ ⟨zx BK280 0,zx BK280 1,zx BK280 2,zx BK280 3⟩ (fun hHeld=>?_)
    clear hK K
    refine zW (some 14) ?_
    refine zP HT_ 12 (some 15) rfl rfl ?_
    refine zP HT_ 13 (some 16) rfl rfl ?_
    refine zU HT_ 14 (some 17) rfl rfl ?_
    refine zU HT_ 15 (some 18) rfl rfl ?_
    refine zU HT_ 16 (some 19) rfl rfl ?_
    refine zU HT_ 17 (some 20) rfl rfl ?_
    refine zU HT_ 18 (some 21) rfl rfl ?_
    refine zU HT_ 19 (some 22) rfl rfl ?_
    refine zU HT_ 20 (some 23) rfl rfl ?_
    refine zP HT_ 21 (some 24) rfl rfl ?_
    refine zP HT_ 22 (some 25) rfl rfl ?_
    refine zU HT_ 23 (some 26) rfl rfl ?_
    refine zU HT_ 24 (some 27) rfl rfl ?_
    refine zU HT_ 25 (some 28) rfl rfl ?_
    refine zU HT_ 26 (some 29) rfl rfl ?_
    refine zU HT_ 27 (some 30) rfl rfl ?_
    refine zU HT_ 28 (some 31) rfl rfl ?_
    refine zU HT_ 29 (some 32) rfl rfl ?_
    refine zP HT_ 30 (some 33) rfl rfl ?_
    refine zP HT_ 31 (some 34) rfl rfl ?_
    refine zU HT_ 32 (some 35) rfl rfl ?_
    refine zU HT_ 33 (some 36) rfl rfl ?_
    refine zU HT_ 34 (some 37) rfl rfl ?_
    refine zU HT_ 35 (some 38) rfl rfl ?_
    refine zU HT_ 36 (some 39) rfl rfl ?_
    refine zU HT_ 37 (some 40) rfl rfl ?_
    refine zP HT_ 38 (some 41) rfl rfl ?_
    refine zP HT_ 39 (some 2) rfl rfl ?_
    refine done_ (done_of HT_.1 (by kernel_rfl)) ?_
    try go_wp2
    go_ret
    exact ⟨by first|rfl|(simp [errW_none,errW_some] <;> rfl)|(simp only [← hji6];first|rfl|(simp [errW_none,errW_some] <;> rfl))|(simp [*,errW_none,errW_some] <;> rfl),zH1 HB.1 GE280.1⟩
  ·rw [if_neg c5] at H
   exact absurd H (by simp)
 ·replace c3:=Bool.eq_false_iff.mpr c3
  subst c3
  have H1:(some false)=some r:=by rw [if_neg (show ¬ (false=true) by decide)] at H;exact H
  clear H
  have H:=H1
  clear H1
  obtain rfl:=Option.some.inj H
  go_enter Tryz.func37,Tryz.ntmps37
  try go_wp2_with (first|((with_reducible refine gate_dst (N:=1) rfl ?_);refine zX 1 #[.int .i64 a0_0,.int .i64 a0_1,.int .i64 a0_2,.int .i64 a0_3] 25 ?_;intro gb280 hg w24 hbox hb;refine zA4 (below_step (zH HB.1) hb) (hbox) (zs hg HB:w.heap.size≤gb280) (zs hg HB:w.heap.size≤gb280) ?_;clear HB;intro HB BK280 GW280 GE280;clear hb hbox hg))
  refine zA2 (blk_drew BK280.1) (below_drew1 HB.1) ?_
  clear BK280 HB
  intro BK280 HB
  refine start_ (n:=40) (S:=fun w'=>w'.cell? ⟨gb280,0,none⟩=some (.int .i64 a0_0)∧w'.cell? ⟨gb280,1,none⟩=some (.int .i64 a0_1)∧w'.cell? ⟨gb280,2,none⟩=some (.int .i64 a0_2)∧w'.cell? ⟨gb280,3,none⟩=some (.int .i64 a0_3)) (ds:=[]) #[false,false,false,false,false,false,false,false,false,false,false,false,false,false,false,false,false,false,false,false,false,false,false,false,false,false,false,false,false,false,false,false,false,false,false,false,false,false,false,false] (by kernel_rfl) rfl rfl ⟨zx BK280 0,zx BK280 1,zx BK280 2,zx BK280 3⟩ (fun hHeld=>?_);refine with_tabW impl_IsField.tab1 impl_IsField.bits1 (fun HT_ HW_=>?_)
  generalize w24.drew=w25 at BK280 HB hHeld ⊢
  refine zP HT_ 0 (some 3) rfl rfl ?_
  refine zT HT_ HW_ hHeld 1 (some 4) rfl rfl ?_
  refine one_ (i:=2) (N:=some 5) #[true,true,true,false,false,false,false,false,false,false,false,false,false,false,false,false,false,false,false,false,false,false,false,false,false,false,false,false,false,false,false,false,false,false,false,false,false,false,false,false] rfl rfl (one_of HT_.1 (by kernel_rfl)) (by decide) (fun K hK=>?_)
  refine goes_ Tryz.func39 (by kernel_rfl) rfl #[.int .i64 a0_0,.int .i64 1,.int .i64 8] (by rfl) rfl rfl zM ?_
  with_reducible refine (impl_within.calls a0_0 1 8 false _ A2.1).mono ?_
  rintro e w' ⟨rfl,⟨nd,rfl⟩⟩
  refine ⟨_,rfl,?_⟩
  refine hK.out _ _ ⟨zx BK280 0,zx BK280 1,zx BK280 2,zx BK280 3⟩ (fun hHeld=>?_)
  clear hK K
  refine zW (some 5) ?_
  refine zP HT_ 3 (some 6) rfl rfl ?_
  refine zU HT_ 4 (some 7) rfl rfl ?_
  refine zU HT_ 5 (some 8) rfl rfl ?_
  refine zU HT_ 6 (some 9) rfl rfl ?_
  refine zU HT_ 7 (some 10) rfl rfl ?_
  refine zU HT_ 8 (some 11) rfl rfl ?_
  refine zU HT_ 9 (some 12) rfl rfl ?_
  refine zU HT_ 10 (some 13) rfl rfl ?_
  refine zU HT_ 11 (some 14) rfl rfl ?_
  refine zP HT_ 12 (some 15) rfl rfl ?_
  refine zP HT_ 13 (some 16) rfl rfl ?_
  refine zU HT_ 14 (some 17) rfl rfl ?_
  refine zU HT_ 15 (some 18) rfl rfl ?_
  refine zU HT_ 16 (some 19) rfl rfl ?_
  refine zU HT_ 17 (some 20) rfl rfl ?_
  refine zU HT_ 18 (some 21) rfl rfl ?_
  refine zU HT_ 19 (some 22) rfl rfl ?_
  refine zU HT_ 20 (some 23) rfl rfl ?_
  refine zP HT_ 21 (some 24) rfl rfl ?_
  refine zP HT_ 22 (some 25) rfl rfl ?_
  refine zU HT_ 23 (some 26) rfl rfl ?_
  refine zU HT_ 24 (some 27) rfl rfl ?_
  refine zU HT_ 25 (some 28) rfl rfl ?_
  refine zU HT_ 26 (some 29) rfl rfl ?_
  refine zU HT_ 27 (some 30) rfl rfl ?_
  refine zU HT_ 28 (some 31) rfl rfl ?_
  refine zU HT_ 29 (some 32) rfl rfl ?_
  refine zP HT_ 30 (some 33) rfl rfl ?_
  refine zP HT_ 31 (some 34) rfl rfl ?_
  refine zU HT_ 32 (some 35) rfl rfl ?_
  refine zU HT_ 33 (some 36) rfl rfl ?_
  refine zU HT_ 34 (some 37) rfl rfl ?_
  refine zU HT_ 35 (some 38) rfl rfl ?_
  refine zU HT_ 36 (some 39) rfl rfl ?_
  refine zU HT_ 37 (some 40) rfl rfl ?_
  refine zP HT_ 38 (some 41) rfl rfl ?_
  refine zP HT_ 39 (some 2) rfl rfl ?_
  refine done_ (done_of HT_.1 (by kernel_rfl)) ?_
  try go_wp2
  go_ret
  exact ⟨zE,zH1 HB.1 GE280.1⟩
def impl_first.l0:Nat→List (S70)→Int→Int→Option (Int)
 |0,_,_,_=>none
 |k+1,x5,x6,x7=>if x7<x6 then (if 0≤x7 then (if x7<(x5.length:Int) then (if ((rd_T70 x5 x7).f0=true) then (impl_first.l0 k x5 x6 (wrap64 (x7+1))) else (some ((rd_T70 x5 x7).f1))) else (none)) else (none)) else (some 0)
def impl_first.f (k:Nat) (l0:List (S70)):Option (Int):=impl_first.l0 k l0 (l0.length:Int) 0
theorem impl_first.mono_l:∀ k,(∀ y0 y1 y2,LeO (impl_first.l0 k y0 y1 y2) (impl_first.l0 (k+1) y0 y1 y2))
 |0=>fun _ _ _ r h=>by simp [impl_first.l0] at h
 |k+1=>by
  have ih0:=impl_first.mono_l k
  ·intro y0 y1 y2
   unfold impl_first.l0
   exact zO
theorem impl_first.mono:∀ a0 k,LeO (impl_first.f k a0) (impl_first.f (k+1) a0):=by
 intro a0 k
 have ih0:=impl_first.mono_l k
 unfold impl_first.f
 exact zO
theorem impl_first.calls (k:Nat) (A0:Option Addr) (c0:Nat) (l0:List (S70)) (r:Int) (w:World) (hr0:Kd.C k70 w A0 l0.length l0) (hc0:l0.length≤c0) (h:impl_first.f k l0=some r):
 Calls Tryz.prog 38 #[.slice A0 l0.length c0] w fun e w'=>e=.returned (.int .i64 r)∧Below w.heap.size w w':=by
 have hu70:=Tryz.underlying70
 have HR0:=Aside0.mk hr0
 have HC0:=Aside0.mk hc0
 clear hr0 hc0
 have HB:=Aside0.mk (Below.refl w.heap.size w)
 have H:(impl_first.l0 k l0 (l0.length:Int) 0)=some r:=h
 clear h
 have H':=Aside0.mk H
 clear H
 go_enter Tryz.func38,Tryz.ntmps38
 go_wp2
 go_loopg [7] k (fun kq v7 w'=>∃ (x7_1:Int),v7=.int .i64 x7_1∧Aside0 (impl_first.l0 kq l0 (l0.length:Int) x7_1=some r)∧Aside0 (kq≤k)∧Aside0 (Below w.heap.size w w'))
 case atStart=>exact ⟨(0),(zF),H',⟨Nat.le_refl _⟩,⟨zH HB.1⟩⟩
 case round=>
  clear H'
  obtain ⟨x7_1,rfl,HA,HK1,HB⟩:=hrel
  cases gk with
  |zero=>exact absurd HA.1 (by simp [impl_first.l0])
  |succ k1=>
   have H:=HA.1
   clear HA
   simp only [impl_first.l0] at H
   by_cases c2:x7_1<(l0.length:Int)
   ·rw [if_pos c2] at H
    have c2b0:=decide_eq_true c2
    clear c2
    by_cases c3:0≤x7_1
    ·rw [if_pos c3] at H
     have c3b0:=decide_eq_true c3
     clear c3
     by_cases c4:x7_1<(l0.length:Int)
     ·rw [if_pos c4] at H
      have c4b0:=decide_eq_true c4
      clear c4
      obtain ⟨bq5,hbq5⟩:∃ b_:Bool,b_=((rd_T70 l0 x7_1).f0):=⟨_,rfl⟩
      replace H:(if (bq5=true) then (impl_first.l0 k1 l0 (l0.length:Int) (wrap64 (x7_1+1))) else (some ((rd_T70 l0 x7_1).f1)))=some r:=by rw [← hbq5] at H;exact H
      have Nbq5:=Aside0.mk hbq5
      clear hbq5
      by_cases c6:(bq5=true)
      ·subst c6
       have H1:(impl_first.l0 k1 l0 (l0.length:Int) (wrap64 (x7_1+1)))=some r:=by rw [if_pos rfl] at H;exact H
       clear H
       have H:=H1
       clear H1
       have H':=Aside0.mk H
       clear H
       have p286:0≤(x7_1:Int):=zo
       have q286:x7_1<(l0.length:Int):=zo
       obtain ⟨ad286,e286,hx286_0,hx286_1⟩:=at_T70 HR0.1 x7_1 p286 q286
       (try rw [← Nbq5.1] at hx286_0)
       cases e286
       replace hx286_0:=zy HB hx286_0
       replace hx286_1:=zy HB hx286_1
       replace p286:=eq_true p286
       replace q286:=eq_true q286
       go_wp2_with (first|((with_reducible refine gate_dst (N:=4) rfl ?_);refine zX 4 #[.bool false,.int .i64 0] 70 ?_;intro gb287 hg w7 hbox hb;refine zA4 (below_step (zH HB.1) hb) (hbox) (zs hg HB:w.heap.size≤gb287) (zs hg HB:w.heap.size≤gb287) ?_;clear HB;intro HB BK287 GW287 GE287;clear hb hbox hg;obtain ⟨Z8_0,Z8_1⟩:=zc2 BK287;obtain ⟨V8_0,V8_1⟩:=zf2 BK287))
       go_roundg k1
       case measure=>have:=HK1.1;omega
       case rel=>exact ⟨(wrap64 (x7_1+1)),(zF),H',⟨by have:=HK1.1;omega⟩,⟨zH1 HB.1 GE287.1⟩⟩
      ·replace c6:=Bool.eq_false_iff.mpr c6
       subst c6
       have H1:(some ((rd_T70 l0 x7_1).f1))=some r:=by rw [if_neg (show ¬ (false=true) by decide)] at H;exact H
       clear H
       have H:=H1
       clear H1
       obtain rfl:=Option.some.inj H
       have p286:0≤(x7_1:Int):=zo
       have q286:x7_1<(l0.length:Int):=zo
       obtain ⟨ad286,e286,hx286_0,hx286_1⟩:=at_T70 HR0.1 x7_1 p286 q286
       (try rw [← Nbq5.1] at hx286_0)
       cases e286
       replace hx286_0:=zy HB hx286_0
       replace hx286_1:=zy HB hx286_1
       replace p286:=eq_true p286
       replace q286:=eq_true q286
       go_wp2_with (first|((with_reducible refine gate_dst (N:=4) rfl ?_);refine zX 4 #[.bool false,.int .i64 0] 70 ?_;intro gb287 hg w9 hbox hb;refine zA4 (below_step (zH HB.1) hb) (hbox) (zs hg HB:w.heap.size≤gb287) (zs hg HB:w.heap.size≤gb287) ?_;clear HB;intro HB BK287 GW287 GE287;clear hb hbox hg;obtain ⟨Z10_0,Z10_1⟩:=zc2 BK287;obtain ⟨V10_0,V10_1⟩:=zf2 BK287))
       go_ret
       exact ⟨zE,zH1 HB.1 GE287.1⟩
     ·rw [if_neg c4] at H
      exact absurd H (by simp)
    ·rw [if_neg c3] at H
     exact absurd H (by simp)
   ·rw [if_neg c2] at H
    have c2b0:=decide_eq_false c2
    clear c2
    obtain rfl:=Option.some.inj H
    go_wp2
    go_ret
    exact ⟨zE,zH HB.1⟩
def impl_isBit.f (a0:Int):Option (Bool):=(impl_within.f a0 0 1).bind fun t288=>(some t288)
theorem impl_isBit.calls (a0:Int) (r:Bool) (w:World) (h:impl_isBit.f a0=some r):
 Calls Tryz.prog 64 #[.int .i64 a0] w fun e w'=>e=.returned (.bool r)∧Drawn0 w w':=by
 have H:((impl_within.f a0 0 1).bind fun t288=>(some t288))=some r:=h
 clear h
 obtain ⟨t288,A2,H⟩:=zb H
 obtain rfl:=Option.some.inj H
 go_enter Tryz.func64,Tryz.ntmps64
 go_wp2_with (first|((with_reducible refine gate_callee (f:=39) rfl ?_);refine zL (some 4) Tryz.func39 #[.int .i64 a0,.int .i64 0,.int .i64 1] ?_;(with_reducible refine (impl_within.calls a0 0 1 t288 _ A2.1).mono ?_);rintro e w' ⟨rfl,⟨nd,rfl⟩⟩;refine ⟨_,rfl,?_⟩))
 go_ret
 exact ⟨zF,zD⟩
def impl_Field_colour.f (a0_0:Int) (a0_1:Int) (a0_2:Int) (a0_3:Int) (a1:Int):Option (Int):=if 0≤a1 then (some (wrap64 ((Go.bits .and .i64 (shr .i64 a0_2 a1) 1)+(wrap64 (2*(Go.bits .and .i64 (shr .i64 a0_3 a1) 1)))))) else (none)
theorem impl_Field_colour.calls (a0_0:Int) (a0_1:Int) (a0_2:Int) (a0_3:Int) (a1:Int) (r:Int) (w:World) (h:impl_Field_colour.f a0_0 a0_1 a0_2 a0_3 a1=some r):
 Calls Tryz.prog 73 #[.agg #[.int .i64 a0_0,.int .i64 a0_1,.int .i64 a0_2,.int .i64 a0_3],.int .i64 a1] w fun e w'=>e=.returned (.int .i64 r)∧Below w.heap.size w w':=by
 have hu25:=Tryz.underlying25
 have HB:=Aside0.mk (Below.refl w.heap.size w)
 have H:(if 0≤a1 then (some (wrap64 ((Go.bits .and .i64 (shr .i64 a0_2 a1) 1)+(wrap64 (2*(Go.bits .and .i64 (shr .i64 a0_3 a1) 1)))))) else (none))=some r:=h
 clear h
 by_cases c3:0≤a1
 ·rw [if_pos c3] at H
  have c3b0:=eq_true c3
  have c3b1:=decide_eq_true c3
  clear c3
  obtain ⟨ji4,hji4⟩:=zj (shr .i64 a0_2 a1)
  (first|rw [hji4] at H|simp only [hji4] at H)
  have hji4_:(a0_2/2 ^ min a1.toNat 64)=ji4:=hji4
  have hji4z:a1≤64→(a0_2/2 ^ a1.toNat)=ji4:=shr_small hji4
  have c5b0:=eq_true (zo:0≤a1)
  obtain ⟨ji6,hji6⟩:=zj (shr .i64 a0_3 a1)
  (first|rw [hji6] at H|simp only [hji6] at H)
  have hji6_:(a0_3/2 ^ min a1.toNat 64)=ji6:=hji6
  have hji6z:a1≤64→(a0_3/2 ^ a1.toNat)=ji6:=shr_small hji6
  obtain rfl:=Option.some.inj H
  go_enter Tryz.func73,Tryz.ntmps73
  go_wp2_with (first|((with_reducible refine gate_dst (N:=2) rfl ?_);refine zX 2 #[.int .i64 a0_0,.int .i64 a0_1,.int .i64 a0_2,.int .i64 a0_3] 25 ?_;intro gb289 hg w7 hbox hb;refine zA4 (below_step (zH HB.1) hb) (hbox) (zs hg HB:w.heap.size≤gb289) (zs hg HB:w.heap.size≤gb289) ?_;clear HB;intro HB BK289 GW289 GE289;clear hb hbox hg;obtain ⟨Z8_0,Z8_1,Z8_2,Z8_3⟩:=zc4 BK289;obtain ⟨V8_0,V8_1,V8_2,V8_3⟩:=zf4 BK289))
  repeat (go_quiet (first|((with_reducible refine gate_dst (N:=2) rfl ?_);refine zX 2 #[.int .i64 a0_0,.int .i64 a0_1,.int .i64 a0_2,.int .i64 a0_3] 25 ?_;intro gb289 hg w7 hbox hb;refine zA4 (below_step (zH HB.1) hb) (hbox) (zs hg HB:w.heap.size≤gb289) (zs hg HB:w.heap.size≤gb289) ?_;clear HB;intro HB BK289 GW289 GE289;clear hb hbox hg;obtain ⟨Z8_0,Z8_1,Z8_2,Z8_3⟩:=zc4 BK289;obtain ⟨V8_0,V8_1,V8_2,V8_3⟩:=zf4 BK289));try go_wp2_with (first|((with_reducible refine gate_dst (N:=2) rfl ?_);refine zX 2 #[.int .i64 a0_0,.int .i64 a0_1,.int .i64 a0_2,.int .i64 a0_3] 25 ?_;intro gb289 hg w7 hbox hb;refine zA4 (below_step (zH HB.1) hb) (hbox) (zs hg HB:w.heap.size≤gb289) (zs hg HB:w.heap.size≤gb289) ?_;clear HB;intro HB BK289 GW289 GE289;clear hb hbox hg;obtain ⟨Z8_0,Z8_1,Z8_2,Z8_3⟩:=zc4 BK289;obtain ⟨V8_0,V8_1,V8_2,V8_3⟩:=zf4 BK289)))
  go_ret
  exact ⟨by first|rfl|(simp [errW_none,errW_some] <;> rfl)|(simp only [← hji4,← hji6];first|rfl|(simp [errW_none,errW_some] <;> rfl))|(simp [*,errW_none,errW_some] <;> rfl),zH1 HB.1 GE289.1⟩
 ·rw [if_neg c3] at H
  exact absurd H (by simp)
def impl_Field_joins.f (a0_0:Int) (a0_1:Int) (a0_2:Int) (a0_3:Int) (a1:Int) (a2:Int):Option (Bool):=if (mn a1 a2)=(mx a1 a2) then (some false) else ((impl_pairs.f (mx a1 a2)).bind fun t291=>(if 0≤(wrap64 (t291+(mn a1 a2))) then (some ((Go.bits .and .i64 (shr .i64 a0_1 (wrap64 (t291+(mn a1 a2)))) 1)==1)) else (none)))
theorem impl_Field_joins.calls (a0_0:Int) (a0_1:Int) (a0_2:Int) (a0_3:Int) (a1:Int) (a2:Int) (r:Bool) (w:World) (h:impl_Field_joins.f a0_0 a0_1 a0_2 a0_3 a1 a2=some r):
 Calls Tryz.prog 81 #[.agg #[.int .i64 a0_0,.int .i64 a0_1,.int .i64 a0_2,.int .i64 a0_3],.int .i64 a1,.int .i64 a2] w fun e w'=>e=.returned (.bool r)∧Below w.heap.size w w':=by
 have hu25:=Tryz.underlying25
 have HB:=Aside0.mk (Below.refl w.heap.size w)
 have H:(if (mn a1 a2)=(mx a1 a2) then (some false) else ((impl_pairs.f (mx a1 a2)).bind fun t291=>(if 0≤(wrap64 (t291+(mn a1 a2))) then (some ((Go.bits .and .i64 (shr .i64 a0_1 (wrap64 (t291+(mn a1 a2)))) 1)==1)) else (none))))=some r:=h
 clear h
 obtain ⟨ji4,hji4⟩:=zj (mn a1 a2)
 (first|rw [hji4] at H|simp only [hji4] at H)
 have hji4_:(if a2<a1 then a2 else a1)=ji4:=hji4
 obtain ⟨ji5,hji5⟩:=zj (mx a1 a2)
 (first|rw [hji5] at H|simp only [hji5] at H)
 have hji5_:(if a1<a2 then a2 else a1)=ji5:=hji5
 by_cases c6:(ji4)=(ji5)
 ·rw [if_pos c6] at H
  have c6b0:=zq1 c6
  have c6b1:=zq2 c6
  clear c6
  obtain rfl:=Option.some.inj H
  go_enter Tryz.func81,Tryz.ntmps81
  go_wp2_with (first|((with_reducible refine gate_dst (N:=3) rfl ?_);refine zX 3 #[.int .i64 a0_0,.int .i64 a0_1,.int .i64 a0_2,.int .i64 a0_3] 25 ?_;intro gb290 hg w7 hbox hb;refine zA4 (below_step (zH HB.1) hb) (hbox) (zs hg HB:w.heap.size≤gb290) (zs hg HB:w.heap.size≤gb290) ?_;clear HB;intro HB BK290 GW290 GE290;clear hb hbox hg))
  repeat (go_quiet (first|((with_reducible refine gate_dst (N:=3) rfl ?_);refine zX 3 #[.int .i64 a0_0,.int .i64 a0_1,.int .i64 a0_2,.int .i64 a0_3] 25 ?_;intro gb290 hg w7 hbox hb;refine zA4 (below_step (zH HB.1) hb) (hbox) (zs hg HB:w.heap.size≤gb290) (zs hg HB:w.heap.size≤gb290) ?_;clear HB;intro HB BK290 GW290 GE290;clear hb hbox hg));try go_wp2_with (first|((with_reducible refine gate_dst (N:=3) rfl ?_);refine zX 3 #[.int .i64 a0_0,.int .i64 a0_1,.int .i64 a0_2,.int .i64 a0_3] 25 ?_;intro gb290 hg w7 hbox hb;refine zA4 (below_step (zH HB.1) hb) (hbox) (zs hg HB:w.heap.size≤gb290) (zs hg HB:w.heap.size≤gb290) ?_;clear HB;intro HB BK290 GW290 GE290;clear hb hbox hg)))
  go_ret
  exact ⟨by first|rfl|(simp [errW_none,errW_some] <;> rfl)|(simp only [← hji4,← hji5];first|rfl|(simp [errW_none,errW_some] <;> rfl))|(simp [*,errW_none,errW_some] <;> rfl),zH1 HB.1 GE290.1⟩
 ·rw [if_neg c6] at H
  have c6b0:=zq3 c6
  have c6b1:=zq4 c6
  obtain ⟨t291,A8,H⟩:=zb H
  obtain ⟨ji9,hji9⟩:=zj (wrap64 (t291+(ji4)))
  (first|rw [hji9] at H|simp only [hji9] at H)
  (try rw [hji9] at A8)
  have hji9w:(IntKind.i64.wrap (t291+(ji4)))=ji9:=(i64_w _).trans hji9
  by_cases c10:0≤(ji9)
  ·rw [if_pos c10] at H
   have c10b0:=eq_true c10
   have c10b1:=decide_eq_true c10
   clear c10
   obtain ⟨ji11,hji11⟩:=zj (shr .i64 a0_1 (ji9))
   (first|rw [hji11] at H|simp only [hji11] at H)
   (try rw [hji11] at A8)
   have hji11_:(a0_1/2 ^ min (ji9).toNat 64)=ji11:=hji11
   have hji11z:(ji9)≤64→(a0_1/2 ^ (ji9).toNat)=ji11:=shr_small hji11
   obtain rfl:=Option.some.inj H
   go_enter Tryz.func81,Tryz.ntmps81
   go_wp2_with (first|((with_reducible refine gate_dst (N:=3) rfl ?_);refine zX 3 #[.int .i64 a0_0,.int .i64 a0_1,.int .i64 a0_2,.int .i64 a0_3] 25 ?_;intro gb290 hg w12 hbox hb;refine zA4 (below_step (zH HB.1) hb) (hbox) (zs hg HB:w.heap.size≤gb290) (zs hg HB:w.heap.size≤gb290) ?_;clear HB;intro HB BK290 GW290 GE290;clear hb hbox hg;obtain ⟨Z13_0,Z13_1,Z13_2,Z13_3⟩:=zc4 BK290;obtain ⟨V13_0,V13_1,V13_2,V13_3⟩:=zf4 BK290)|(go_at_call 77;(with_reducible refine (impl_pairs.calls ji5 t291 _ A8.1).mono ?_);rintro e w' ⟨rfl,⟨nd,rfl⟩⟩;(try exact zv)))
   repeat (go_quiet (first|((with_reducible refine gate_dst (N:=3) rfl ?_);refine zX 3 #[.int .i64 a0_0,.int .i64 a0_1,.int .i64 a0_2,.int .i64 a0_3] 25 ?_;intro gb290 hg w12 hbox hb;refine zA4 (below_step (zH HB.1) hb) (hbox) (zs hg HB:w.heap.size≤gb290) (zs hg HB:w.heap.size≤gb290) ?_;clear HB;intro HB BK290 GW290 GE290;clear hb hbox hg;obtain ⟨Z13_0,Z13_1,Z13_2,Z13_3⟩:=zc4 BK290;obtain ⟨V13_0,V13_1,V13_2,V13_3⟩:=zf4 BK290)|(go_at_call 77;(with_reducible refine (impl_pairs.calls ji5 t291 _ A8.1).mono ?_);rintro e w' ⟨rfl,⟨nd,rfl⟩⟩;(try exact zv)));try go_wp2_with (first|((with_reducible refine gate_dst (N:=3) rfl ?_);refine zX 3 #[.int .i64 a0_0,.int .i64 a0_1,.int .i64 a0_2,.int .i64 a0_3] 25 ?_;intro gb290 hg w12 hbox hb;refine zA4 (below_step (zH HB.1) hb) (hbox) (zs hg HB:w.heap.size≤gb290) (zs hg HB:w.heap.size≤gb290) ?_;clear HB;intro HB BK290 GW290 GE290;clear hb hbox hg;obtain ⟨Z13_0,Z13_1,Z13_2,Z13_3⟩:=zc4 BK290;obtain ⟨V13_0,V13_1,V13_2,V13_3⟩:=zf4 BK290)|(go_at_call 77;(with_reducible refine (impl_pairs.calls ji5 t291 _ A8.1).mono ?_);rintro e w' ⟨rfl,⟨nd,rfl⟩⟩;(try exact zv))))
   go_ret
   exact ⟨by first|rfl|(simp [errW_none,errW_some] <;> rfl)|(simp only [← hji4,← hji5,← hji9,← hji11];first|rfl|(simp [errW_none,errW_some] <;> rfl))|(simp [*,errW_none,errW_some] <;> rfl),zH1 HB.1 GE290.1⟩
  ·rw [if_neg c10] at H
   exact absurd H (by simp)
mutual
def impl_Field_isFair.l0:Nat→Int→Int→Int→Int→Int→Int→Int→Option (Bool)
 |0,_,_,_,_,_,_,_=>none
 |k+1,x1,x10,x11,x293000,x293001,x293002,x293003=>if x11<x10 then (impl_Field_isFair.l1 k x1 x11 x10 x11 x11 0 x293000 x293001 x293002 x293003) else (some true)
def impl_Field_isFair.l1:Nat→Int→Int→Int→Int→Int→Int→Int→Int→Int→Int→Option (Bool)
 |0,_,_,_,_,_,_,_,_,_,_=>none
 |k+1,x1,x5,x10,x11,x14,x15,x293000,x293001,x293002,x293003=>if x15<x14 then ((impl_Field_colour.f x293000 x293001 x293002 x293003 x15).bind fun t293=>((impl_Field_colour.f x293000 x293001 x293002 x293003 x5).bind fun t294=>((impl_Field_joins.f x293000 x293001 x293002 x293003 x15 x5).bind fun t295=>(if t295=true then (if t293=0 then (impl_Field_isFair.l1 k x1 x5 x10 x11 x14 (wrap64 (x15+1)) x293000 x293001 x293002 x293003) else (if t294=0 then (impl_Field_isFair.l1 k x1 x5 x10 x11 x14 (wrap64 (x15+1)) x293000 x293001 x293002 x293003) else (if ((t293==t294)==(x1==0))=true then (some false) else (impl_Field_isFair.l1 k x1 x5 x10 x11 x14 (wrap64 (x15+1)) x293000 x293001 x293002 x293003)))) else (impl_Field_isFair.l1 k x1 x5 x10 x11 x14 (wrap64 (x15+1)) x293000 x293001 x293002 x293003))))) else (impl_Field_isFair.l0 k x1 x10 (wrap64 (x11+1)) x293000 x293001 x293002 x293003)
end
def impl_Field_isFair.f (k:Nat) (a0_0:Int) (a0_1:Int) (a0_2:Int) (a0_3:Int) (a1:Int):Option (Bool):=impl_Field_isFair.l0 k a1 a0_0 0 a0_0 a0_1 a0_2 a0_3
theorem impl_Field_isFair.mono_l:∀ k,(∀ y0 y1 y2 y3 y4 y5 y6,LeO (impl_Field_isFair.l0 k y0 y1 y2 y3 y4 y5 y6) (impl_Field_isFair.l0 (k+1) y0 y1 y2 y3 y4 y5 y6))∧(∀ y0 y1 y2 y3 y4 y5 y6 y7 y8 y9,LeO (impl_Field_isFair.l1 k y0 y1 y2 y3 y4 y5 y6 y7 y8 y9) (impl_Field_isFair.l1 (k+1) y0 y1 y2 y3 y4 y5 y6 y7 y8 y9))
 |0=>⟨fun _ _ _ _ _ _ _ r h=>by simp [impl_Field_isFair.l0] at h,fun _ _ _ _ _ _ _ _ _ _ r h=>by simp [impl_Field_isFair.l1] at h⟩
 |k+1=>by
  obtain ⟨ih0,ih1⟩:=impl_Field_isFair.mono_l k
  refine ⟨?_,?_⟩
  ·intro y0 y1 y2 y3 y4 y5 y6
   unfold impl_Field_isFair.l0
   exact zO
  ·intro y0 y1 y2 y3 y4 y5 y6 y7 y8 y9
   unfold impl_Field_isFair.l1
   exact zO
theorem impl_Field_isFair.mono:∀ a0 a1 a2 a3 a4 k,LeO (impl_Field_isFair.f k a0 a1 a2 a3 a4) (impl_Field_isFair.f (k+1) a0 a1 a2 a3 a4):=by
 intro a0 a1 a2 a3 a4 k
 obtain ⟨ih0,ih1⟩:=impl_Field_isFair.mono_l k
 unfold impl_Field_isFair.f
 exact zO
def impl_Field_isFair.T7:Bool×List (List Nat×List Nat):=(true,[([],[]),([],[]),([0,1],[0,1]),([],[]),([],[]),([3,4,2],[3,4]),([2,5,0,1,2],[2]),([5,6,0,1,2,3,4,5,6],[5])])
def impl_Field_isFair.B7:List Nat:=[0,0,3,0,0,31,63,127]
theorem impl_Field_isFair.tab7:rtab .any (opsOf Tryz.f65 7)=impl_Field_isFair.T7:=by kernel_rfl
theorem impl_Field_isFair.bits7:waitsOk impl_Field_isFair.T7.2 impl_Field_isFair.B7=true:=by kernel_rfl
theorem impl_Field_isFair.calls (k:Nat) (a0_0:Int) (a0_1:Int) (a0_2:Int) (a0_3:Int) (a1:Int) (r:Bool) (w:World) (h:impl_Field_isFair.f k a0_0 a0_1 a0_2 a0_3 a1=some r):
 Calls Tryz.prog 65 #[.agg #[.int .i64 a0_0,.int .i64 a0_1,.int .i64 a0_2,.int .i64 a0_3],.int .i64 a1] w fun e w'=>e=.returned (.bool r)∧Below w.heap.size w w':=by
 have hu25:=Tryz.underlying25
 have HB:=Aside0.mk (Below.refl w.heap.size w)
 have H:(impl_Field_isFair.l0 k a1 a0_0 0 a0_0 a0_1 a0_2 a0_3)=some r:=h
 clear h
 have H':=Aside0.mk H
 clear H
 go_enter Tryz.func65,Tryz.ntmps65
 go_wp2_with (first|((with_reducible refine gate_dst (N:=2) rfl ?_);refine zX 2 #[.int .i64 a0_0,.int .i64 a0_1,.int .i64 a0_2,.int .i64 a0_3] 25 ?_;intro gb292 hg w3 hbox hb;refine zA4 (below_step (zH HB.1) hb) (hbox) (zs hg HB:w.heap.size≤gb292) (zs hg HB:w.heap.size≤gb292) ?_;clear HB;intro HB BK292 GW292 GE292;clear hb hbox hg;obtain ⟨Z4_0,Z4_1,Z4_2,Z4_3⟩:=zc4 BK292;obtain ⟨V4_0,V4_1,V4_2,V4_3⟩:=zf4 BK292))
 go_loopg [11] k (fun kq v11 w'=>∃ (x11_1:Int),v11=.int .i64 x11_1∧Aside0 (impl_Field_isFair.l0 kq a1 a0_0 x11_1 a0_0 a0_1 a0_2 a0_3=some r)∧Aside0 (kq≤k)∧Aside0 (w'.heap[gb292]?=some (.cells #[.int .i64 a0_0,.int .i64 a0_1,.int .i64 a0_2,.int .i64 a0_3] 25 (0,0)))∧Aside0 (Below w.heap.size w w'))
 case atStart=>exact ⟨(0),(zF),H',⟨Nat.le_refl _⟩,⟨zB BK292.1⟩,⟨zH1 HB.1 GE292.1⟩⟩
 case round=>
  clear H'
  try clear p2
  try clear Z4_0 Z4_1 Z4_2 Z4_3 V4_0 V4_1 V4_2 V4_3
  obtain ⟨x11_1,rfl,HA,HK1,BK292,HB⟩:=hrel
  cases gk with
  |zero=>exact absurd HA.1 (by simp [impl_Field_isFair.l0])
  |succ k1=>
   have H:=HA.1
   clear HA
   simp only [impl_Field_isFair.l0] at H
   by_cases c5:x11_1<a0_0
   ·rw [if_pos c5] at H
    have c5b0:=decide_eq_true c5
    clear c5
    have H':=Aside0.mk H
    clear H
    go_wp2
    go_loopg [15] k1 (fun kq v15 w'=>∃ (x15_2:Int),v15=.int .i64 x15_2∧Aside0 (impl_Field_isFair.l1 kq a1 x11_1 a0_0 x11_1 x11_1 x15_2 a0_0 a0_1 a0_2 a0_3=some r)∧Aside0 (kq≤k1)∧Aside0 (w'.heap[gb292]?=some (.cells #[.int .i64 a0_0,.int .i64 a0_1,.int .i64 a0_2,.int .i64 a0_3] 25 (0,0)))∧Aside0 (Below w.heap.size w w'))
    case atStart=>exact ⟨(0),(zF),H',⟨Nat.le_refl _⟩,⟨zB BK292.1⟩,⟨zH1 HB.1 GE292.1⟩⟩
    case round=>
     clear H'
     try clear p2
     try clear c5
     try clear c5b0
     try clear Z4_0 Z4_1 Z4_2 Z4_3 V4_0 V4_1 V4_2 V4_3
     try clear p2
     obtain ⟨x15_2,rfl,HA,HK2,BK292,HB⟩:=hrel
     cases gk with
     |zero=>exact absurd HA.1 (by simp [impl_Field_isFair.l1])
     |succ k2=>
      have H:=HA.1
      clear HA
      simp only [impl_Field_isFair.l1] at H
      by_cases c6:x15_2<x11_1
      ·rw [if_pos c6] at H
       have c6b0:=decide_eq_true c6
       clear c6
       obtain ⟨t293,A7,H⟩:=zb H
       obtain ⟨t294,A8,H⟩:=zb H
       obtain ⟨t295,A9,H⟩:=zb H
       by_cases c10:t295=true
       ·subst c10
        have H1:(if t293=0 then (impl_Field_isFair.l1 k2 a1 x11_1 a0_0 x11_1 x11_1 (wrap64 (x15_2+1)) a0_0 a0_1 a0_2 a0_3) else (if t294=0 then (impl_Field_isFair.l1 k2 a1 x11_1 a0_0 x11_1 x11_1 (wrap64 (x15_2+1)) a0_0 a0_1 a0_2 a0_3) else (if ((t293==t294)==(a1==0))=true then (some false) else (impl_Field_isFair.l1 k2 a1 x11_1 a0_0 x11_1 x11_1 (wrap64 (x15_2+1)) a0_0 a0_1 a0_2 a0_3))))=some r:=by rw [if_pos rfl] at H;exact H
        clear H
        have H:=H1
        clear H1
        by_cases c11:t293=0
        ·rw [if_pos c11] at H
         have c11b0:=zq1 c11
         have c11b1:=zq2 c11
         clear c11
         have H':=Aside0.mk H
         clear H
         try go_wp2
         refine zA2 (blk_drew BK292.1) (below_drew1 HB.1) ?_
         clear BK292 HB
         intro BK292 HB
         refine start_ (n:=8) (S:=fun w'=>w'.cell? ⟨gb292,0,none⟩=some (.int .i64 a0_0)∧w'.cell? ⟨gb292,1,none⟩=some (.int .i64 a0_1)∧w'.cell? ⟨gb292,2,none⟩=some (.int .i64 a0_2)∧w'.cell? ⟨gb292,3,none⟩=some (.int .i64 a0_3)) (ds:=[]) #[false,false,false,false,false,false,false,false] (by kernel_rfl) rfl rfl ⟨zx BK292 0,zx BK292 1,zx BK292 2,zx BK292 3⟩ (fun hHeld=>?_);refine with_tabW impl_Field_isFair.tab7 impl_Field_isFair.bits7 (fun HT_ HW_=>?_)
         generalize wr.drew=w12 at BK292 HB hHeld ⊢
         refine zP HT_ 1 (some 19) rfl rfl ?_
         refine zP HT_ 4 (some 22) rfl rfl ?_
         refine zT HT_ HW_ hHeld 0 (some 18) rfl rfl ?_
         refine zT HT_ HW_ hHeld 3 (some 21) rfl rfl ?_
         refine one_ (i:=2) (N:=some 20) #[true,true,true,true,true,false,false,false] rfl rfl (one_of HT_.1 (by kernel_rfl)) (by decide) (fun K hK=>?_)
         refine goes_ Tryz.func73 (by kernel_rfl) rfl #[.agg #[.int .i64 a0_0,.int .i64 a0_1,.int .i64 a0_2,.int .i64 a0_3],.int .i64 x15_2] (by rfl) rfl rfl zM ?_
         with_reducible refine (impl_Field_colour.calls a0_0 a0_1 a0_2 a0_3 x15_2 t293 _ A7.1).mono ?_
         rintro e w13 ⟨rfl,hb⟩
         refine ⟨_,rfl,?_⟩
         refine zA2 (zY BK292.1 hb) (below_step (zH1 HB.1 GE292.1) hb) ?_
         clear BK292 HB
         intro BK292 HB
         (try clear hb)
         (try clear hb2)
         (try clear hk)
         (try clear hi)
         refine hK.out _ _ ⟨zx BK292 0,zx BK292 1,zx BK292 2,zx BK292 3⟩ (fun hHeld=>?_)
         clear hK K
         refine zW (some 20) ?_
         refine one_ (i:=5) (N:=some 23) #[true,true,true,true,true,true,false,false] rfl rfl (one_of HT_.1 (by kernel_rfl)) (by decide) (fun K hK=>?_)
         refine goes_ Tryz.func73 (by kernel_rfl) rfl #[.agg #[.int .i64 a0_0,.int .i64 a0_1,.int .i64 a0_2,.int .i64 a0_3],.int .i64 x11_1] (by rfl) rfl rfl zM ?_
         with_reducible refine (impl_Field_colour.calls a0_0 a0_1 a0_2 a0_3 x11_1 t294 _ A8.1).mono ?_
         rintro e w14 ⟨rfl,hb⟩
         refine ⟨_,rfl,?_⟩
         refine zA2 (zY BK292.1 hb) (below_step (zH1 HB.1 GE292.1) hb) ?_
         clear BK292 HB
         intro BK292 HB
         (try clear hb)
         (try clear hb2)
         (try clear hk)
         (try clear hi)
         refine hK.out _ _ ⟨zx BK292 0,zx BK292 1,zx BK292 2,zx BK292 3⟩ (fun hHeld=>?_)
         clear hK K
         refine zW (some 23) ?_
         refine zP HT_ 6 (some 7) rfl rfl ?_
         refine zP HT_ 7 (some 8) rfl rfl ?_
         refine done_ (done_of HT_.1 (by kernel_rfl)) ?_
         obtain ⟨Z15_0,Z15_1,Z15_2,Z15_3⟩:=zc4 BK292
         obtain ⟨V15_0,V15_1,V15_2,V15_3⟩:=zf4 BK292
         try go_wp2_with (first|((with_reducible refine gate_callee (f:=81) rfl ?_);refine zL (some 27) Tryz.func81 #[.agg #[.int .i64 a0_0,.int .i64 a0_1,.int .i64 a0_2,.int .i64 a0_3],.int .i64 x15_2,.int .i64 x11_1] ?_;(with_reducible refine (impl_Field_joins.calls a0_0 a0_1 a0_2 a0_3 x15_2 x11_1 true _ A9.1).mono ?_);rintro e w16 ⟨rfl,hb⟩;refine ⟨_,rfl,?_⟩;refine zA2 (zY BK292.1 hb) (below_step (zH1 HB.1 GE292.1) hb) ?_;clear BK292 HB;intro BK292 HB;(try clear hb)))
         go_roundg k2
         case measure=>have:=HK1.1;have:=HK2.1;omega
         case rel=>exact ⟨(wrap64 (x15_2+1)),(zF),H',⟨by have:=HK1.1;have:=HK2.1;omega⟩,⟨zB BK292.1⟩,⟨zH1 HB.1 GE292.1⟩⟩
        ·rw [if_neg c11] at H
         have c11b0:=zq3 c11
         have c11b1:=zq4 c11
         by_cases c17:t294=0
         ·rw [if_pos c17] at H
          have c17b0:=zq1 c17
          have c17b1:=zq2 c17
          clear c17
          have H':=Aside0.mk H
          clear H
          try go_wp2
          refine zA2 (blk_drew BK292.1) (below_drew1 HB.1) ?_
          clear BK292 HB
          intro BK292 HB
          refine start_ (n:=8) (S:=fun w'=>w'.cell? ⟨gb292,0,none⟩=some (.int .i64 a0_0)∧w'.cell? ⟨gb292,1,none⟩=some (.int .i64 a0_1)∧w'.cell? ⟨gb292,2,none⟩=some (.int .i64 a0_2)∧w'.cell? ⟨gb292,3,none⟩=some (.int .i64 a0_3)) (ds:=[]) #[false,false,false,false,false,false,false,false] (by kernel_rfl) rfl rfl ⟨zx BK292 0,zx BK292 1,zx BK292 2,zx BK292 3⟩ (fun hHeld=>?_);refine with_tabW impl_Field_isFair.tab7 impl_Field_isFair.bits7 (fun HT_ HW_=>?_)
          generalize wr.drew=w18 at BK292 HB hHeld ⊢
          refine zP HT_ 1 (some 19) rfl rfl ?_
          refine zP HT_ 4 (some 22) rfl rfl ?_
          refine zT HT_ HW_ hHeld 0 (some 18) rfl rfl ?_
          refine zT HT_ HW_ hHeld 3 (some 21) rfl rfl ?_
          refine one_ (i:=2) (N:=some 20) #[true,true,true,true,true,false,false,false] rfl rfl (one_of HT_.1 (by kernel_rfl)) (by decide) (fun K hK=>?_)
          refine goes_ Tryz.func73 (by kernel_rfl) rfl #[.agg #[.int .i64 a0_0,.int .i64 a0_1,.int .i64 a0_2,.int .i64 a0_3],.int .i64 x15_2] (by rfl) rfl rfl zM ?_
          with_reducible refine (impl_Field_colour.calls a0_0 a0_1 a0_2 a0_3 x15_2 t293 _ A7.1).mono ?_
          rintro e w19 ⟨rfl,hb⟩
          refine ⟨_,rfl,?_⟩
          refine zA2 (zY BK292.1 hb) (below_step (zH1 HB.1 GE292.1) hb) ?_
          clear BK292 HB
          intro BK292 HB
          (try clear hb)
          (try clear hb2)
          (try clear hk)
          (try clear hi)
          refine hK.out _ _ ⟨zx BK292 0,zx BK292 1,zx BK292 2,zx BK292 3⟩ (fun hHeld=>?_)
          clear hK K
          refine zW (some 20) ?_
          refine one_ (i:=5) (N:=some 23) #[true,true,true,true,true,true,false,false] rfl rfl (one_of HT_.1 (by kernel_rfl)) (by decide) (fun K hK=>?_)
          refine goes_ Tryz.func73 (by kernel_rfl) rfl #[.agg #[.int .i64 a0_0,.int .i64 a0_1,.int .i64 a0_2,.int .i64 a0_3],.int .i64 x11_1] (by rfl) rfl rfl zM ?_
          with_reducible refine (impl_Field_colour.calls a0_0 a0_1 a0_2 a0_3 x11_1 t294 _ A8.1).mono ?_
          rintro e w20 ⟨rfl,hb⟩
          refine ⟨_,rfl,?_⟩
          refine zA2 (zY BK292.1 hb) (below_step (zH1 HB.1 GE292.1) hb) ?_
          clear BK292 HB
          intro BK292 HB
          (try clear hb)
          (try clear hb2)
          (try clear hk)
          (try clear hi)
          refine hK.out _ _ ⟨zx BK292 0,zx BK292 1,zx BK292 2,zx BK292 3⟩ (fun hHeld=>?_)
          clear hK K
          refine zW (some 23) ?_
          refine zP HT_ 6 (some 7) rfl rfl ?_
          refine zP HT_ 7 (some 8) rfl rfl ?_
          refine done_ (done_of HT_.1 (by kernel_rfl)) ?_
          obtain ⟨Z21_0,Z21_1,Z21_2,Z21_3⟩:=zc4 BK292
          obtain ⟨V21_0,V21_1,V21_2,V21_3⟩:=zf4 BK292
          try go_wp2_with (first|((with_reducible refine gate_callee (f:=81) rfl ?_);refine zL (some 27) Tryz.func81 #[.agg #[.int .i64 a0_0,.int .i64 a0_1,.int .i64 a0_2,.int .i64 a0_3],.int .i64 x15_2,.int .i64 x11_1] ?_;(with_reducible refine (impl_Field_joins.calls a0_0 a0_1 a0_2 a0_3 x15_2 x11_1 true _ A9.1).mono ?_);rintro e w22 ⟨rfl,hb⟩;refine ⟨_,rfl,?_⟩;refine zA2 (zY BK292.1 hb) (below_step (zH1 HB.1 GE292.1) hb) ?_;clear BK292 HB;intro BK292 HB;(try clear hb)))
          go_roundg k2
          case measure=>have:=HK1.1;have:=HK2.1;omega
          case rel=>exact ⟨(wrap64 (x15_2+1)),(zF),H',⟨by have:=HK1.1;have:=HK2.1;omega⟩,⟨zB BK292.1⟩,⟨zH1 HB.1 GE292.1⟩⟩
         ·rw [if_neg c17] at H
          have c17b0:=zq3 c17
          have c17b1:=zq4 c17
          by_cases c23:((t293==t294)==(a1==0))=true
          ·rw [if_pos c23] at H
           have c23b0:((t293==t294)==(a1==0))=true:=c23
           (try (have c23b1:decide ((t293==t294)=(a1==0))=true:=by simpa using c23))
           (try (have c23b2:((t293==t294)==(a1==0))=true:=by simpa using c23))
           clear c23
           obtain rfl:=Option.some.inj H
           try go_wp2
           refine zA2 (blk_drew BK292.1) (below_drew1 HB.1) ?_
           clear BK292 HB
           intro BK292 HB
           refine start_ (n:=8) (S:=fun w'=>w'.cell? ⟨gb292,0,none⟩=some (.int .i64 a0_0)∧w'.cell? ⟨gb292,1,none⟩=some (.int .i64 a0_1)∧w'.cell? ⟨gb292,2,none⟩=some (.int .i64 a0_2)∧w'.cell? ⟨gb292,3,none⟩=some (.int .i64 a0_3)) (ds:=[]) #[false,false,false,false,false,false,false,false] (by kernel_rfl) rfl rfl ⟨zx BK292 0,zx BK292 1,zx BK292 2,zx BK292 3⟩ (fun hHeld=>?_);refine with_tabW impl_Field_isFair.tab7 impl_Field_isFair.bits7 (fun HT_ HW_=>?_)
           generalize wr.drew=w24 at BK292 HB hHeld ⊢
           refine zP HT_ 1 (some 19) rfl rfl ?_
           refine zP HT_ 4 (some 22) rfl rfl ?_
           refine zT HT_ HW_ hHeld 0 (some 18) rfl rfl ?_
           refine zT HT_ HW_ hHeld 3 (some 21) rfl rfl ?_
           refine one_ (i:=2) (N:=some 20) #[true,true,true,true,true,false,false,false] rfl rfl (one_of HT_.1 (by kernel_rfl)) (by decide) (fun K hK=>?_)
           refine goes_ Tryz.func73 (by kernel_rfl) rfl #[.agg #[.int .i64 a0_0,.int .i64 a0_1,.int .i64 a0_2,.int .i64 a0_3],.int .i64 x15_2] (by rfl) rfl rfl zM ?_
           with_reducible refine (impl_Field_colour.calls a0_0 a0_1 a0_2 a0_3 x15_2 t293 _ A7.1).mono ?_
           rintro e w25 ⟨rfl,hb⟩
           refine ⟨_,rfl,?_⟩
           refine zA2 (zY BK292.1 hb) (below_step (zH1 HB.1 GE292.1) hb) ?_
           clear BK292 HB
           intro BK292 HB
           (try clear hb)
           (try clear hb2)
           (try clear hk)
           (try clear hi)
           refine hK.out _ _ ⟨zx BK292 0,zx BK292 1,zx BK292 2,zx BK292 3⟩ (fun hHeld=>?_)
           clear hK K
           refine zW (some 20) ?_
           refine one_ (i:=5) (N:=some 23) #[true,true,true,true,true,true,false,false] rfl rfl (one_of HT_.1 (by kernel_rfl)) (by decide) (fun K hK=>?_)
           refine goes_ Tryz.func73 (by kernel_rfl) rfl #[.agg #[.int .i64 a0_0,.int .i64 a0_1,.int .i64 a0_2,.int .i64 a0_3],.int .i64 x11_1] (by rfl) rfl rfl zM ?_
           with_reducible refine (impl_Field_colour.calls a0_0 a0_1 a0_2 a0_3 x11_1 t294 _ A8.1).mono ?_
           rintro e w26 ⟨rfl,hb⟩
           refine ⟨_,rfl,?_⟩
           refine zA2 (zY BK292.1 hb) (below_step (zH1 HB.1 GE292.1) hb) ?_
           clear BK292 HB
           intro BK292 HB
           (try clear hb)
           (try clear hb2)
           (try clear hk)
           (try clear hi)
           refine hK.out _ _ ⟨zx BK292 0,zx BK292 1,zx BK292 2,zx BK292 3⟩ (fun hHeld=>?_)
           clear hK K
           refine zW (some 23) ?_
           refine zP HT_ 6 (some 7) rfl rfl ?_
           refine zP HT_ 7 (some 8) rfl rfl ?_
           refine done_ (done_of HT_.1 (by kernel_rfl)) ?_
           obtain ⟨Z27_0,Z27_1,Z27_2,Z27_3⟩:=zc4 BK292
           obtain ⟨V27_0,V27_1,V27_2,V27_3⟩:=zf4 BK292
           try go_wp2_with (first|((with_reducible refine gate_callee (f:=81) rfl ?_);refine zL (some 27) Tryz.func81 #[.agg #[.int .i64 a0_0,.int .i64 a0_1,.int .i64 a0_2,.int .i64 a0_3],.int .i64 x15_2,.int .i64 x11_1] ?_;(with_reducible refine (impl_Field_joins.calls a0_0 a0_1 a0_2 a0_3 x15_2 x11_1 true _ A9.1).mono ?_);rintro e w28 ⟨rfl,hb⟩;refine ⟨_,rfl,?_⟩;refine zA2 (zY BK292.1 hb) (below_step (zH1 HB.1 GE292.1) hb) ?_;clear BK292 HB;intro BK292 HB;(try clear hb)))
           go_ret
           exact ⟨zE,zH1 HB.1 GE292.1⟩
          ·rw [if_neg c23] at H
           have c23b0:((t293==t294)==(a1==0))=false:=by simpa using c23
           (try (have c23b1:decide ((t293==t294)=(a1==0))=false:=by simpa using c23))
           (try (have c23b2:((t293==t294)==(a1==0))=false:=by simpa using c23))
           (try (have c23b3:¬ ((t293==t294)=(a1==0)):=by simpa using c23))
           clear c23
           have H':=Aside0.mk H
           clear H
           try go_wp2
           refine zA2 (blk_drew BK292.1) (below_drew1 HB.1) ?_
           clear BK292 HB
           intro BK292 HB
           refine start_ (n:=8) (S:=fun w'=>w'.cell? ⟨gb292,0,none⟩=some (.int .i64 a0_0)∧w'.cell? ⟨gb292,1,none⟩=some (.int .i64 a0_1)∧w'.cell? ⟨gb292,2,none⟩=some (.int .i64 a0_2)∧w'.cell? ⟨gb292,3,none⟩=some (.int .i64 a0_3)) (ds:=[]) #[false,false,false,false,false,false,false,false] (by kernel_rfl) rfl rfl ⟨zx BK292 0,zx BK292 1,zx BK292 2,zx BK292 3⟩ (fun hHeld=>?_);refine with_tabW impl_Field_isFair.tab7 impl_Field_isFair.bits7 (fun HT_ HW_=>?_)
           generalize wr.drew=w29 at BK292 HB hHeld ⊢
           refine zP HT_ 1 (some 19) rfl rfl ?_
           refine zP HT_ 4 (some 22) rfl rfl ?_
           refine zT HT_ HW_ hHeld 0 (some 18) rfl rfl ?_
           refine zT HT_ HW_ hHeld 3 (some 21) rfl rfl ?_
           refine one_ (i:=2) (N:=some 20) #[true,true,true,true,true,false,false,false] rfl rfl (one_of HT_.1 (by kernel_rfl)) (by decide) (fun K hK=>?_)
           refine goes_ Tryz.func73 (by kernel_rfl) rfl #[.agg #[.int .i64 a0_0,.int .i64 a0_1,.int .i64 a0_2,.int .i64 a0_3],.int .i64 x15_2] (by rfl) rfl rfl zM ?_
           with_reducible refine (impl_Field_colour.calls a0_0 a0_1 a0_2 a0_3 x15_2 t293 _ A7.1).mono ?_
           rintro e w30 ⟨rfl,hb⟩
           refine ⟨_,rfl,?_⟩
           refine zA2 (zY BK292.1 hb) (below_step (zH1 HB.1 GE292.1) hb) ?_
           clear BK292 HB
           intro BK292 HB
           (try clear hb)
           (try clear hb2)
           (try clear hk)
           (try clear hi)
           refine hK.out _ _ ⟨zx BK292 0,zx BK292 1,zx BK292 2,zx BK292 3⟩ (fun hHeld=>?_)
           clear hK K
           refine zW (some 20) ?_
           refine one_ (i:=5) (N:=some 23) #[true,true,true,true,true,true,false,false] rfl rfl (one_of HT_.1 (by kernel_rfl)) (by decide) (fun K hK=>?_)
           refine goes_ Tryz.func73 (by kernel_rfl) rfl #[.agg #[.int .i64 a0_0,.int .i64 a0_1,.int .i64 a0_2,.int .i64 a0_3],.int .i64 x11_1] (by rfl) rfl rfl zM ?_
           with_reducible refine (impl_Field_colour.calls a0_0 a0_1 a0_2 a0_3 x11_1 t294 _ A8.1).mono ?_
           rintro e w31 ⟨rfl,hb⟩
           refine ⟨_,rfl,?_⟩
           refine zA2 (zY BK292.1 hb) (below_step (zH1 HB.1 GE292.1) hb) ?_
           clear BK292 HB
           intro BK292 HB
           (try clear hb)
           (try clear hb2)
           (try clear hk)
           (try clear hi)
           refine hK.out _ _ ⟨zx BK292 0,zx BK292 1,zx BK292 2,zx BK292 3⟩ (fun hHeld=>?_)
           clear hK K
           refine zW (some 23) ?_
           refine zP HT_ 6 (some 7) rfl rfl ?_
           refine zP HT_ 7 (some 8) rfl rfl ?_
           refine done_ (done_of HT_.1 (by kernel_rfl)) ?_
           obtain ⟨Z32_0,Z32_1,Z32_2,Z32_3⟩:=zc4 BK292
           obtain ⟨V32_0,V32_1,V32_2,V32_3⟩:=zf4 BK292
           try go_wp2_with (first|((with_reducible refine gate_callee (f:=81) rfl ?_);refine zL (some 27) Tryz.func81 #[.agg #[.int .i64 a0_0,.int .i64 a0_1,.int .i64 a0_2,.int .i64 a0_3],.int .i64 x15_2,.int .i64 x11_1] ?_;(with_reducible refine (impl_Field_joins.calls a0_0 a0_1 a0_2 a0_3 x15_2 x11_1 true _ A9.1).mono ?_);rintro e w33 ⟨rfl,hb⟩;refine ⟨_,rfl,?_⟩;refine zA2 (zY BK292.1 hb) (below_step (zH1 HB.1 GE292.1) hb) ?_;clear BK292 HB;intro BK292 HB;(try clear hb)))
           go_roundg k2
           case measure=>have:=HK1.1;have:=HK2.1;omega
           case rel=>exact ⟨(wrap64 (x15_2+1)),(zF),H',⟨by have:=HK1.1;have:=HK2.1;omega⟩,⟨zB BK292.1⟩,⟨zH1 HB.1 GE292.1⟩⟩
       ·replace c10:=Bool.eq_false_iff.mpr c10
        subst c10
        have H1:(impl_Field_isFair.l1 k2 a1 x11_1 a0_0 x11_1 x11_1 (wrap64 (x15_2+1)) a0_0 a0_1 a0_2 a0_3)=some r:=by rw [if_neg (show ¬ (false=true) by decide)] at H;exact H
        clear H
        have H:=H1
        clear H1
        have H':=Aside0.mk H
        clear H
        try go_wp2
        refine zA2 (blk_drew BK292.1) (below_drew1 HB.1) ?_
        clear BK292 HB
        intro BK292 HB
        refine start_ (n:=8) (S:=fun w'=>w'.cell? ⟨gb292,0,none⟩=some (.int .i64 a0_0)∧w'.cell? ⟨gb292,1,none⟩=some (.int .i64 a0_1)∧w'.cell? ⟨gb292,2,none⟩=some (.int .i64 a0_2)∧w'.cell? ⟨gb292,3,none⟩=some (.int .i64 a0_3)) (ds:=[]) #[false,false,false,false,false,false,false,false] (by kernel_rfl) rfl rfl ⟨zx BK292 0,zx BK292 1,zx BK292 2,zx BK292 3⟩ (fun hHeld=>?_);refine with_tabW impl_Field_isFair.tab7 impl_Field_isFair.bits7 (fun HT_ HW_=>?_)
        generalize wr.drew=w34 at BK292 HB hHeld ⊢
        refine zP HT_ 1 (some 19) rfl rfl ?_
        refine zP HT_ 4 (some 22) rfl rfl ?_
        refine zT HT_ HW_ hHeld 0 (some 18) rfl rfl ?_
        refine zT HT_ HW_ hHeld 3 (some 21) rfl rfl ?_
        refine one_ (i:=2) (N:=some 20) #[true,true,true,true,true,false,false,false] rfl rfl (one_of HT_.1 (by kernel_rfl)) (by decide) (fun K hK=>?_)
        refine goes_ Tryz.func73 (by kernel_rfl) rfl #[.agg #[.int .i64 a0_0,.int .i64 a0_1,.int .i64 a0_2,.int .i64 a0_3],.int .i64 x15_2] (by rfl) rfl rfl zM ?_
        with_reducible refine (impl_Field_colour.calls a0_0 a0_1 a0_2 a0_3 x15_2 t293 _ A7.1).mono ?_
        rintro e w35 ⟨rfl,hb⟩
        refine ⟨_,rfl,?_⟩
        refine zA2 (zY BK292.1 hb) (below_step (zH1 HB.1 GE292.1) hb) ?_
        clear BK292 HB
        intro BK292 HB
        (try clear hb)
        (try clear hb2)
        (try clear hk)
        (try clear hi)
        refine hK.out _ _ ⟨zx BK292 0,zx BK292 1,zx BK292 2,zx BK292 3⟩ (fun hHeld=>?_)
        clear hK K
        refine zW (some 20) ?_
        refine one_ (i:=5) (N:=some 23) #[true,true,true,true,true,true,false,false] rfl rfl (one_of HT_.1 (by kernel_rfl)) (by decide) (fun K hK=>?_)
        refine goes_ Tryz.func73 (by kernel_rfl) rfl #[.agg #[.int .i64 a0_0,.int .i64 a0_1,.int .i64 a0_2,.int .i64 a0_3],.int .i64 x11_1] (by rfl) rfl rfl zM ?_
        with_reducible refine (impl_Field_colour.calls a0_0 a0_1 a0_2 a0_3 x11_1 t294 _ A8.1).mono ?_
        rintro e w36 ⟨rfl,hb⟩
        refine ⟨_,rfl,?_⟩
        refine zA2 (zY BK292.1 hb) (below_step (zH1 HB.1 GE292.1) hb) ?_
        clear BK292 HB
        intro BK292 HB
        (try clear hb)
        (try clear hb2)
        (try clear hk)
        (try clear hi)
        refine hK.out _ _ ⟨zx BK292 0,zx BK292 1,zx BK292 2,zx BK292 3⟩ (fun hHeld=>?_)
        clear hK K
        refine zW (some 23) ?_
        refine zP HT_ 6 (some 7) rfl rfl ?_
        refine zP HT_ 7 (some 8) rfl rfl ?_
        refine done_ (done_of HT_.1 (by kernel_rfl)) ?_
        obtain ⟨Z37_0,Z37_1,Z37_2,Z37_3⟩:=zc4 BK292
        obtain ⟨V37_0,V37_1,V37_2,V37_3⟩:=zf4 BK292
        try go_wp2_with (first|((with_reducible refine gate_callee (f:=81) rfl ?_);refine zL (some 27) Tryz.func81 #[.agg #[.int .i64 a0_0,.int .i64 a0_1,.int .i64 a0_2,.int .i64 a0_3],.int .i64 x15_2,.int .i64 x11_1] ?_;(with_reducible refine (impl_Field_joins.calls a0_0 a0_1 a0_2 a0_3 x15_2 x11_1 false _ A9.1).mono ?_);rintro e w38 ⟨rfl,hb⟩;refine ⟨_,rfl,?_⟩;refine zA2 (zY BK292.1 hb) (below_step (zH1 HB.1 GE292.1) hb) ?_;clear BK292 HB;intro BK292 HB;(try clear hb)))
        go_roundg k2
        case measure=>have:=HK1.1;have:=HK2.1;omega
        case rel=>exact ⟨(wrap64 (x15_2+1)),(zF),H',⟨by have:=HK1.1;have:=HK2.1;omega⟩,⟨zB BK292.1⟩,⟨zH1 HB.1 GE292.1⟩⟩
      ·rw [if_neg c6] at H
       have c6b0:=decide_eq_false c6
       clear c6
       have H':=Aside0.mk H
       clear H
       go_wp2
       go_roundg k2
       case measure=>have:=HK1.1;have:=HK2.1;omega
       case rel=>exact ⟨(wrap64 (x11_1+1)),(zF),H',⟨by have:=HK1.1;have:=HK2.1;omega⟩,⟨zB BK292.1⟩,⟨zH1 HB.1 GE292.1⟩⟩
   ·rw [if_neg c5] at H
    have c5b0:=decide_eq_false c5
    clear c5
    obtain rfl:=Option.some.inj H
    go_wp2
    go_ret
    exact ⟨zE,zH1 HB.1 GE292.1⟩
end Go.Proofs.YtlmohkbimnhecaaGreat.Q
