import Derived.Test.YtlmohkbimnhecaaGreatQ0
import Derived.Test.YtlmohkbimnhecaaGreatSq
import Derived.Test.YtlmohkbimnhecaaGreatQ1
import Derived.Test.YtlmohkbimnhecaaGreatQ2
import Derived.Test.YtlmohkbimnhecaaGreatQ4
import Derived.Test.YtlmohkbimnhecaaGreatQ6
set_option maxHeartbeats 8000000
set_option maxRecDepth 100000
namespace Go.Proofs.YtlmohkbimnhecaaGreat.Q
open Go.RowKit Go.Proofs.YtlmohkbimnhecaaGreatW.PrintWords Go.Proofs.YtlmohkbimnhecaaGreatW.PrintLast Go.Proofs.YtlmohkbimnhecaaGreatW.PrintMore
attribute [local go_sem] max2_int min2_int max_two min_two max_three min_three max_four min_four
set_option linter.unusedVariables false
set_option linter.unusedSimpArgs false
def slices_Index_bool_bool.l0:Nat→List Bool→Bool→Int→Int→Option (Int)
 |0,_,_,_,_=>none
 |k+1,x0,x1,x7,x8=>if x8<x7 then (if 0≤x8 then (if x8<(x0.length:Int) then (if (x1==(rdOf false x0 x8))=true then (some x8) else (slices_Index_bool_bool.l0 k x0 x1 x7 (wrap64 (x8+1)))) else (none)) else (none)) else (some (-1))
def slices_Index_bool_bool.f (k:Nat) (l0:List Bool) (a1:Bool):Option (Int):=slices_Index_bool_bool.l0 k l0 a1 (l0.length:Int) 0
theorem slices_Index_bool_bool.mono_l:∀ k,(∀ y0 y1 y2 y3,LeO (slices_Index_bool_bool.l0 k y0 y1 y2 y3) (slices_Index_bool_bool.l0 (k+1) y0 y1 y2 y3))
 |0=>fun _ _ _ _ r h=>by simp [slices_Index_bool_bool.l0] at h
 |k+1=>by
  have ih0:=slices_Index_bool_bool.mono_l k
  ·intro y0 y1 y2 y3
   unfold slices_Index_bool_bool.l0
   exact zO
theorem slices_Index_bool_bool.mono:∀ a0 a1 k,LeO (slices_Index_bool_bool.f k a0 a1) (slices_Index_bool_bool.f (k+1) a0 a1):=by
 intro a0 a1 k
 have ih0:=slices_Index_bool_bool.mono_l k
 unfold slices_Index_bool_bool.f
 exact zO
theorem slices_Index_bool_bool.calls (k:Nat) (A0:Option Addr) (c0:Nat) (l0:List Bool) (a1:Bool) (r:Int) (w:World) (hr0:Kd.C Kd.bool w A0 l0.length l0) (hc0:l0.length≤c0) (h:slices_Index_bool_bool.f k l0 a1=some r):
 Calls Tryz.prog 90 #[.slice A0 l0.length c0,.bool a1] w fun e w'=>e=.returned (.int .i64 r)∧Drawn0 w w':=by
 have HR0:=Aside0.mk hr0
 have HC0:=Aside0.mk hc0
 clear hr0 hc0
 have H:(slices_Index_bool_bool.l0 k l0 a1 (l0.length:Int) 0)=some r:=h
 clear h
 have H':=Aside0.mk H
 clear H
 go_enter Tryz.func90,Tryz.ntmps90
 go_wp2
 go_loopg [8] k (fun kq v8 w'=>∃ (x8_1:Int),v8=.int .i64 x8_1∧Aside0 (slices_Index_bool_bool.l0 kq l0 a1 (l0.length:Int) x8_1=some r)∧Aside0 (kq≤k)∧Drawn0 w w')
 case atStart=>exact ⟨(0),(zF),H',⟨Nat.le_refl _⟩,zD⟩
 case round=>
  clear H'
  try clear p2
  obtain ⟨x8_1,rfl,HA,HK1,⟨m1,rfl⟩⟩:=hrel
  cases gk with
  |zero=>exact absurd HA.1 (by simp [slices_Index_bool_bool.l0])
  |succ k1=>
   have H:=HA.1
   clear HA
   simp only [slices_Index_bool_bool.l0] at H
   by_cases c3:x8_1<(l0.length:Int)
   ·rw [if_pos c3] at H
    have c3b0:=decide_eq_true c3
    clear c3
    by_cases c4:0≤x8_1
    ·rw [if_pos c4] at H
     have c4b0:=decide_eq_true c4
     clear c4
     by_cases c5:x8_1<(l0.length:Int)
     ·rw [if_pos c5] at H
      have c5b0:=decide_eq_true c5
      clear c5
      by_cases c6:(a1==(rdOf false l0 x8_1))=true
      ·rw [if_pos c6] at H
       have c6b0:(a1==(rdOf false l0 x8_1))=true:=c6
       (try (have c6b1:decide (a1=(rdOf false l0 x8_1))=true:=by simpa using c6))
       (try (have c6b2:(a1==(rdOf false l0 x8_1))=true:=by simpa using c6))
       clear c6
       obtain rfl:=Option.some.inj H
       have p565:0≤(x8_1:Int):=zo
       have q565:x8_1<(l0.length:Int):=zo
       obtain ⟨ad565,e565,hx565_0⟩:=Kd.at_bool HR0.1 x8_1 p565 q565
       cases e565
       replace p565:=eq_true p565
       replace q565:=eq_true q565
       go_wp2
       go_ret
       exact ⟨zF,zD⟩
      ·rw [if_neg c6] at H
       have c6b0:(a1==(rdOf false l0 x8_1))=false:=by simpa using c6
       (try (have c6b1:decide (a1=(rdOf false l0 x8_1))=false:=by simpa using c6))
       (try (have c6b2:(a1==(rdOf false l0 x8_1))=false:=by simpa using c6))
       (try (have c6b3:¬ (a1=(rdOf false l0 x8_1)):=by simpa using c6))
       clear c6
       have H':=Aside0.mk H
       clear H
       have p565:0≤(x8_1:Int):=zo
       have q565:x8_1<(l0.length:Int):=zo
       obtain ⟨ad565,e565,hx565_0⟩:=Kd.at_bool HR0.1 x8_1 p565 q565
       cases e565
       replace p565:=eq_true p565
       replace q565:=eq_true q565
       go_wp2
       go_roundg k1
       case measure=>have:=HK1.1;omega
       case rel=>exact ⟨(wrap64 (x8_1+1)),(zF),H',⟨by have:=HK1.1;omega⟩,zD⟩
     ·rw [if_neg c5] at H
      exact absurd H (by simp)
    ·rw [if_neg c4] at H
     exact absurd H (by simp)
   ·rw [if_neg c3] at H
    have c3b0:=decide_eq_false c3
    clear c3
    obtain rfl:=Option.some.inj H
    go_wp2
    go_ret
    exact ⟨zF,zD⟩
def slices_Contains_bool_bool.f (k:Nat) (l0:List Bool) (a1:Bool):Option (Bool):=(slices_Index_bool_bool.f k l0 a1).bind fun t566=>(some (decide (t566≥0)))
theorem slices_Contains_bool_bool.mono:∀ a0 a1 k,LeO (slices_Contains_bool_bool.f k a0 a1) (slices_Contains_bool_bool.f (k+1) a0 a1):=by
 intro a0 a1 k
 unfold slices_Contains_bool_bool.f
 exact zO1 @slices_Index_bool_bool.mono
theorem slices_Contains_bool_bool.calls (k:Nat) (A0:Option Addr) (c0:Nat) (l0:List Bool) (a1:Bool) (r:Bool) (w:World) (hr0:Kd.C Kd.bool w A0 l0.length l0) (hc0:l0.length≤c0) (h:slices_Contains_bool_bool.f k l0 a1=some r):
 Calls Tryz.prog 56 #[.slice A0 l0.length c0,.bool a1] w fun e w'=>e=.returned (.bool r)∧Drawn0 w w':=by
 have HR0:=Aside0.mk hr0
 have HC0:=Aside0.mk hc0
 clear hr0 hc0
 have H:((slices_Index_bool_bool.f k l0 a1).bind fun t566=>(some (decide (t566≥0))))=some r:=h
 clear h
 obtain ⟨t566,A3,H⟩:=zb H
 obtain rfl:=Option.some.inj H
 go_enter Tryz.func56,Tryz.ntmps56
 go_wp2_with (first|((with_reducible refine gate_callee (f:=90) rfl ?_);refine zL (some 7) Tryz.func90 #[.slice A0 l0.length c0,.bool a1] ?_;(with_reducible refine (slices_Index_bool_bool.calls k _ _ l0 a1 t566 _ ?side1 ?side2 A3.1).mono ?_);(case side1=>repeat (first|exact HR0.1|(with_reducible refine Kd.C_alloc ?_ _)|(with_reducible refine Kd.C_drewN ?_ _)|(with_reducible refine Kd.C_drew ?_)));(case side2=>exact HC0.1);rintro e w' ⟨rfl,⟨nd,rfl⟩⟩;refine ⟨_,rfl,?_⟩))
 go_ret
 exact ⟨zF,zD⟩
def impl_WonPlaces_1.f (k:Nat) (l0:List Bool):Option (Bool):=(slices_Contains_bool_bool.f k l0 false).bind fun t567=>(some t567)
theorem impl_WonPlaces_1.mono:∀ a0 k,LeO (impl_WonPlaces_1.f k a0) (impl_WonPlaces_1.f (k+1) a0):=by
 intro a0 k
 unfold impl_WonPlaces_1.f
 exact zO1 @slices_Contains_bool_bool.mono
theorem impl_WonPlaces_1.calls (k:Nat) (A0:Option Addr) (c0:Nat) (l0:List Bool) (r:Bool) (w:World) (hr0:Kd.C Kd.bool w A0 l0.length l0) (hc0:l0.length≤c0) (h:impl_WonPlaces_1.f k l0=some r):
 Calls Tryz.prog 55 #[.slice A0 l0.length c0] w fun e w'=>e=.returned (.bool r)∧Drawn0 w w':=by
 have HR0:=Aside0.mk hr0
 have HC0:=Aside0.mk hc0
 clear hr0 hc0
 have H:((slices_Contains_bool_bool.f k l0 false).bind fun t567=>(some t567))=some r:=h
 clear h
 obtain ⟨t567,A2,H⟩:=zb H
 obtain rfl:=Option.some.inj H
 go_enter Tryz.func55,Tryz.ntmps55
 go_wp2_with (first|((with_reducible refine gate_callee (f:=56) rfl ?_);refine zL (some 4) Tryz.func56 #[.slice A0 l0.length c0,.bool false] ?_;(with_reducible refine (slices_Contains_bool_bool.calls k _ _ l0 false t567 _ ?side1 ?side2 A2.1).mono ?_);(case side1=>repeat (first|exact HR0.1|(with_reducible refine Kd.C_alloc ?_ _)|(with_reducible refine Kd.C_drewN ?_ _)|(with_reducible refine Kd.C_drew ?_)));(case side2=>exact HC0.1);rintro e w' ⟨rfl,⟨nd,rfl⟩⟩;refine ⟨_,rfl,?_⟩))
 go_ret
 exact ⟨zF,zD⟩
def impl_size_int64_98.f (l0:List (List Int)):Option (Int):=some (l0.length:Int)
theorem impl_size_int64_98.calls (A0:Option Addr) (c0:Nat) (l0:List (List Int)) (r:Int) (w:World) (hr0:Kd.C (Kd.slice 2 (Kd.int .i64)) w A0 l0.length l0) (hc0:l0.length≤c0) (h:impl_size_int64_98.f l0=some r):
 Calls Tryz.prog 98 #[.slice A0 l0.length c0] w fun e w'=>e=.returned (.int .i64 r)∧Drawn0 w w':=by
 have HR0:=Aside0.mk hr0
 have HC0:=Aside0.mk hc0
 clear hr0 hc0
 have H:(some (l0.length:Int))=some r:=h
 clear h
 obtain rfl:=Option.some.inj H
 go_enter Tryz.func98,Tryz.ntmps98
 go_wp2
 go_ret
 exact ⟨zF,zD⟩
def impl_IsGame.l0:Nat→Int→List (List Int)→Int→Int→Option (Bool)
 |0,_,_,_,_=>none
 |k+1,x3,x10,x11,x12=>if x12<x11 then (if 0≤x12 then (if x12<(x10.length:Int) then ((impl_isRising.f k (rd_L5 x10 x12) (wrap64 (x12+1)) (wrap64 (x3-1))).bind fun t571=>(if t571=true then (impl_IsGame.l0 k x3 x10 x11 (wrap64 (x12+1))) else (some false))) else (none)) else (none)) else ((impl_within.f x3 1 40).bind fun t572=>(some t572))
def impl_IsGame.f (k:Nat) (l0_0:List (List Int)):Option (Bool):=(impl_size_int64_98.f l0_0).bind fun t569=>(impl_IsGame.l0 k t569 l0_0 (l0_0.length:Int) 0)
theorem impl_IsGame.mono_l:∀ k,(∀ y0 y1 y2 y3,LeO (impl_IsGame.l0 k y0 y1 y2 y3) (impl_IsGame.l0 (k+1) y0 y1 y2 y3))
 |0=>fun _ _ _ _ r h=>by simp [impl_IsGame.l0] at h
 |k+1=>by
  have ih0:=impl_IsGame.mono_l k
  ·intro y0 y1 y2 y3
   unfold impl_IsGame.l0
   exact zO1 @impl_isRising.mono
theorem impl_IsGame.mono:∀ a0 k,LeO (impl_IsGame.f k a0) (impl_IsGame.f (k+1) a0):=by
 intro a0 k
 have ih0:=impl_IsGame.mono_l k
 unfold impl_IsGame.f
 exact zO1 @impl_isRising.mono
theorem impl_IsGame.calls (k:Nat) (A0_0:Option Addr) (c0_0:Nat) (l0_0:List (List Int)) (r:Bool) (w:World) (hr0_0:Kd.C (Kd.slice 2 (Kd.int .i64)) w A0_0 l0_0.length l0_0) (hc0_0:l0_0.length≤c0_0) (h:impl_IsGame.f k l0_0=some r):
 Calls Tryz.prog 89 #[.agg #[.slice A0_0 l0_0.length c0_0]] w fun e w'=>e=.returned (.bool r)∧Below w.heap.size w w':=by
 have hu43:=Tryz.underlying43
 have HR0_0:=Aside0.mk hr0_0
 have HC0_0:=Aside0.mk hc0_0
 clear hr0_0 hc0_0
 have HB:=Aside0.mk (Below.refl w.heap.size w)
 have H:((impl_size_int64_98.f l0_0).bind fun t569=>(impl_IsGame.l0 k t569 l0_0 (l0_0.length:Int) 0))=some r:=h
 clear h
 obtain ⟨t569,A2,H⟩:=zb H
 have H':=Aside0.mk H
 clear H
 go_enter Tryz.func89,Tryz.ntmps89
 go_wp2_with (first|((with_reducible refine gate_dst (N:=1) rfl ?_);refine zX 1 #[.slice A0_0 l0_0.length c0_0] 43 ?_;intro gb568 hg w3 hbox hb;refine zA4 (below_step (zH HB.1) hb) (hbox) (zs hg HB:w.heap.size≤gb568) (zs hg HB:w.heap.size≤gb568) ?_;clear HB;intro HB BK568 GW568 GE568;clear hb hbox hg;have Z4_0:w3.cell? ⟨gb568,0,none⟩=some (.slice A0_0 l0_0.length c0_0):=zx BK568 0;have V4_0:=blk_frozen BK568.1 0)|((with_reducible refine gate_callee (f:=98) rfl ?_);refine zL (some 8) Tryz.func98 #[.slice A0_0 l0_0.length c0_0] ?_;(with_reducible refine (impl_size_int64_98.calls _ _ l0_0 t569 _ ?side1 ?side2 A2.1).mono ?_);(case side1=>repeat (first|exact (Kd.C_below HR0_0.1 HB.1)|(with_reducible refine Kd.C_alloc ?_ _)|(with_reducible refine Kd.C_drewN ?_ _)|(with_reducible refine Kd.C_drew ?_)));(case side2=>exact HC0_0.1);rintro e w' ⟨rfl,⟨nd,rfl⟩⟩;refine ⟨_,rfl,?_⟩))
 go_loopg [12] k (fun kq v12 w'=>∃ (x12_1:Int),v12=.int .i64 x12_1∧Aside0 (impl_IsGame.l0 kq t569 l0_0 (l0_0.length:Int) x12_1=some r)∧Aside0 (kq≤k)∧Aside0 (w'.heap[gb568]?=some (.cells #[(.slice A0_0 l0_0.length c0_0)] 43 (0,0)))∧Aside0 (Below w.heap.size w w'))
 case atStart=>exact ⟨(0),(zF),H',⟨Nat.le_refl _⟩,⟨zB BK568.1⟩,⟨zH1 HB.1 GE568.1⟩⟩
 case round=>
  clear H'
  try clear p2
  try clear Z4_0 V4_0
  obtain ⟨x12_1,rfl,HA,HK1,BK568,HB⟩:=hrel
  cases gk with
  |zero=>exact absurd HA.1 (by simp [impl_IsGame.l0])
  |succ k1=>
   have H:=HA.1
   clear HA
   simp only [impl_IsGame.l0] at H
   by_cases c5:x12_1<(l0_0.length:Int)
   ·rw [if_pos c5] at H
    have c5b0:=decide_eq_true c5
    clear c5
    by_cases c6:0≤x12_1
    ·rw [if_pos c6] at H
     have c6b0:=decide_eq_true c6
     clear c6
     by_cases c7:x12_1<(l0_0.length:Int)
     ·rw [if_pos c7] at H
      have c7b0:=decide_eq_true c7
      clear c7
      obtain ⟨t571,A8,H⟩:=zb H
      by_cases c9:t571=true
      ·subst c9
       have H1:(impl_IsGame.l0 k1 t569 l0_0 (l0_0.length:Int) (wrap64 (x12_1+1)))=some r:=by rw [if_pos rfl] at H;exact H
       clear H
       have H:=H1
       clear H1
       have H':=Aside0.mk H
       clear H
       have p570:0≤(x12_1:Int):=zo
       have q570:x12_1<(l0_0.length:Int):=zo
       obtain ⟨ad570,A570_0,c570_0,e570,hx570_0,hl570_0,hi570_0⟩:=at_L5 HR0_0.1 x12_1 p570 q570
       cases e570
       replace hx570_0:=zy HB hx570_0
       have HR570_0:=Aside0.mk hi570_0
       have HC570_0:=Aside0.mk hl570_0
       clear hi570_0 hl570_0
       replace p570:=eq_true p570
       replace q570:=eq_true q570
       go_wp2_with (first|((with_reducible refine gate_callee (f:=52) rfl ?_);refine zL (some 22) Tryz.func52 #[.slice A570_0 (rd_L5 l0_0 x12_1).length c570_0,.int .i64 (wrap64 (x12_1+1)),.int .i64 (wrap64 (t569-1))] ?_;(with_reducible refine (impl_isRising.calls k1 _ _ (rd_L5 l0_0 x12_1) (wrap64 (x12_1+1)) (wrap64 (t569-1)) true _ ?side1 ?side2 A8.1).mono ?_);(case side1=>repeat (first|exact (Kd.C_below HR570_0.1 HB.1)|(with_reducible refine Kd.C_alloc ?_ _)|(with_reducible refine Kd.C_drewN ?_ _)|(with_reducible refine Kd.C_drew ?_)));(case side2=>exact HC570_0.1);rintro e w' ⟨rfl,⟨nd,rfl⟩⟩;refine ⟨_,rfl,?_⟩))
       go_roundg k1
       case measure=>have:=HK1.1;omega
       case rel=>exact ⟨(wrap64 (x12_1+1)),(zF),H',⟨by have:=HK1.1;omega⟩,⟨zB BK568.1⟩,⟨zH1 HB.1 GE568.1⟩⟩
      ·replace c9:=Bool.eq_false_iff.mpr c9
       subst c9
       have H1:(some false)=some r:=by rw [if_neg (show ¬ (false=true) by decide)] at H;exact H
       clear H
       have H:=H1
       clear H1
       obtain rfl:=Option.some.inj H
       have p570:0≤(x12_1:Int):=zo
       have q570:x12_1<(l0_0.length:Int):=zo
       obtain ⟨ad570,A570_0,c570_0,e570,hx570_0,hl570_0,hi570_0⟩:=at_L5 HR0_0.1 x12_1 p570 q570
       cases e570
       replace hx570_0:=zy HB hx570_0
       have HR570_0:=Aside0.mk hi570_0
       have HC570_0:=Aside0.mk hl570_0
       clear hi570_0 hl570_0
       replace p570:=eq_true p570
       replace q570:=eq_true q570
       go_wp2_with (first|((with_reducible refine gate_callee (f:=52) rfl ?_);refine zL (some 22) Tryz.func52 #[.slice A570_0 (rd_L5 l0_0 x12_1).length c570_0,.int .i64 (wrap64 (x12_1+1)),.int .i64 (wrap64 (t569-1))] ?_;(with_reducible refine (impl_isRising.calls k1 _ _ (rd_L5 l0_0 x12_1) (wrap64 (x12_1+1)) (wrap64 (t569-1)) false _ ?side1 ?side2 A8.1).mono ?_);(case side1=>repeat (first|exact (Kd.C_below HR570_0.1 HB.1)|(with_reducible refine Kd.C_alloc ?_ _)|(with_reducible refine Kd.C_drewN ?_ _)|(with_reducible refine Kd.C_drew ?_)));(case side2=>exact HC570_0.1);rintro e w' ⟨rfl,⟨nd,rfl⟩⟩;refine ⟨_,rfl,?_⟩))
       go_ret
       exact ⟨zE,zH1 HB.1 GE568.1⟩
     ·rw [if_neg c7] at H
      exact absurd H (by simp)
    ·rw [if_neg c6] at H
     exact absurd H (by simp)
   ·rw [if_neg c5] at H
    have c5b0:=decide_eq_false c5
    clear c5
    obtain ⟨t572,A10,H⟩:=zb H
    obtain rfl:=Option.some.inj H
    go_wp2_with (first|((with_reducible refine gate_callee (f:=39) rfl ?_);refine zL (some 26) Tryz.func39 #[.int .i64 t569,.int .i64 1,.int .i64 40] ?_;(with_reducible refine (impl_within.calls t569 1 40 t572 _ A10.1).mono ?_);rintro e w' ⟨rfl,⟨nd,rfl⟩⟩;refine ⟨_,rfl,?_⟩))
    go_ret
    exact ⟨zE,zH1 HB.1 GE568.1⟩
mutual
def impl_backward_bool.l0:Nat→List Bool→Int→List (List Int)→Option (List Bool×Int)
 |0,_,_,_=>none
 |k+1,x6,x7,x574000=>if x7≥0 then (if 0≤x7 then (if x7<(x574000.length:Int) then (impl_backward_bool.l1 k x6 x7 (([]:List Bool)) (rd_L5 x574000 x7) ((rd_L5 x574000 x7).length:Int) 0 x574000) else (none)) else (none)) else (some (x6,0))
def impl_backward_bool.l1:Nat→List Bool→Int→List Bool→List Int→Int→Int→List (List Int)→Option (List Bool×Int)
 |0,_,_,_,_,_,_,_=>none
 |k+1,x6,x7,x8,x30,x31,x32,x574000=>if x32<x31 then (if 0≤x32 then (if x32<(x30.length:Int) then (if 0≤(rd x30 x32) then (if (rd x30 x32)<(x6.length:Int) then (if x8.length<140737488355328 then (impl_backward_bool.l1 k x6 x7 (x8++[rdOf false x6 (rd x30 x32)]) x30 x31 (wrap64 (x32+1)) x574000) else (none)) else (none)) else (none)) else (none)) else (none)) else ((impl_WonPlaces_1.f k x8).bind fun t587=>(if 0≤x7 then (if x7<(x6.length:Int) then (impl_backward_bool.l0 k (x6.set (x7:Int).toNat t587) (wrap64 (x7-1)) x574000) else (none)) else (none)))
end
def impl_backward_bool.f (k:Nat) (l0_0:List (List Int)):Option (List Bool×Int):=(impl_IsGame.f k l0_0).bind fun t574=>(if t574=true then (if 0≤(l0_0.length:Int) then (if ((l0_0.length:Int):Int).toNat≤281474976710656 then ((some (List.replicate ((l0_0.length:Int):Int).toNat false:List Bool)).bind fun y575=>(impl_backward_bool.l0 k y575 (wrap64 ((y575.length:Int)-1)) l0_0)) else (none)) else (none)) else (some (([]:List Bool),1)))
theorem impl_backward_bool.mono_l:∀ k,(∀ y0 y1 y2,LeO (impl_backward_bool.l0 k y0 y1 y2) (impl_backward_bool.l0 (k+1) y0 y1 y2))∧(∀ y0 y1 y2 y3 y4 y5 y6,LeO (impl_backward_bool.l1 k y0 y1 y2 y3 y4 y5 y6) (impl_backward_bool.l1 (k+1) y0 y1 y2 y3 y4 y5 y6))
 |0=>⟨fun _ _ _ r h=>by simp [impl_backward_bool.l0] at h,fun _ _ _ _ _ _ _ r h=>by simp [impl_backward_bool.l1] at h⟩
 |k+1=>by
  obtain ⟨ih0,ih1⟩:=impl_backward_bool.mono_l k
  refine ⟨?_,?_⟩
  ·intro y0 y1 y2
   unfold impl_backward_bool.l0
   exact zO2 @impl_IsGame.mono @impl_WonPlaces_1.mono
  ·intro y0 y1 y2 y3 y4 y5 y6
   unfold impl_backward_bool.l1
   exact zO2 @impl_IsGame.mono @impl_WonPlaces_1.mono
theorem impl_backward_bool.mono:∀ a0 k,LeO (impl_backward_bool.f k a0) (impl_backward_bool.f (k+1) a0):=by
 intro a0 k
 obtain ⟨ih0,ih1⟩:=impl_backward_bool.mono_l k
 unfold impl_backward_bool.f
 exact zO2 @impl_IsGame.mono @impl_WonPlaces_1.mono
theorem impl_backward_bool.calls (k:Nat) (A0_0:Option Addr) (c0_0:Nat) (l0_0:List (List Int)) (r1:List Bool) (r2:Int) (w:World) (hr0_0:Kd.C (Kd.slice 2 (Kd.int .i64)) w A0_0 l0_0.length l0_0) (hc0_0:l0_0.length≤c0_0) (h:impl_backward_bool.f k l0_0=some (r1,r2)):
 Calls Tryz.prog 54 #[.agg #[.slice A0_0 l0_0.length c0_0],.func (.func 55) #[] #[]] w fun e w'=>∃ v0_:Value,e=.returned (.tuple #[v0_,.int .i64 r2])∧Kd.R Kd.bool 4 w' w.heap.size (fun _=>True) v0_ r1∧Below w.heap.size w w':=by
 have hu43:=Tryz.underlying43
 have HR0_0:=Aside0.mk hr0_0
 have HC0_0:=Aside0.mk hc0_0
 clear hr0_0 hc0_0
 have HB:=Aside0.mk (Below.refl w.heap.size w)
 have H:((impl_IsGame.f k l0_0).bind fun t574=>(if t574=true then (if 0≤(l0_0.length:Int) then (if ((l0_0.length:Int):Int).toNat≤281474976710656 then ((some (List.replicate ((l0_0.length:Int):Int).toNat false:List Bool)).bind fun y575=>(impl_backward_bool.l0 k y575 (wrap64 ((y575.length:Int)-1)) l0_0)) else (none)) else (none)) else (some (([]:List Bool),1))))=some (r1,r2):=h
 clear h
 obtain ⟨t574,A2,H⟩:=zb H
 by_cases c3:t574=true
 ·subst c3
  have H1:(if 0≤(l0_0.length:Int) then (if ((l0_0.length:Int):Int).toNat≤281474976710656 then ((some (List.replicate ((l0_0.length:Int):Int).toNat false:List Bool)).bind fun y575=>(impl_backward_bool.l0 k y575 (wrap64 ((y575.length:Int)-1)) l0_0)) else (none)) else (none))=some (r1,r2):=by rw [if_pos rfl] at H;exact H
  clear H
  have H:=H1
  clear H1
  by_cases c4:0≤(l0_0.length:Int)
  ·rw [if_pos c4] at H
   have c4b0:=eq_true c4
   have c4b1:=decide_eq_true c4
   clear c4
   by_cases c5:((l0_0.length:Int):Int).toNat≤281474976710656
   ·rw [if_pos c5] at H
    have c5b0:=eq_true c5
    have c5b1:=decide_eq_true c5
    clear c5
    obtain ⟨y575,hy575⟩:∃ y_:List Bool,y_=(List.replicate ((l0_0.length:Int):Int).toNat false):=⟨_,rfl⟩
    replace H:(impl_backward_bool.l0 k y575 (wrap64 ((y575.length:Int)-1)) l0_0)=some (r1,r2):=by first|(rw [hy575];with_reducible exact H)|(have H2_:=(Option.bind_some _ _).symm.trans H;rw [hy575];with_reducible exact H2_)|(have H2_:=(Option.bind_some _ _).symm.trans H;with_reducible exact H2_)|with_reducible exact H|(rw [hy575];exact H)|exact H
    have Ny575:=Aside0.mk hy575
    clear hy575
    have H':=Aside0.mk H
    clear H
    go_enter Tryz.func54,Tryz.ntmps54
    go_wp2_with (first|((with_reducible refine gate_dst (N:=2) rfl ?_);refine zX 2 #[.slice A0_0 l0_0.length c0_0] 43 ?_;intro gb573 hg w6 hbox hb;refine zA4 (below_step (zH HB.1) hb) (hbox) (zs hg HB:w.heap.size≤gb573) (zs hg HB:w.heap.size≤gb573) ?_;clear HB;intro HB BK573 GW573 GE573;clear hb hbox hg;have Z7_0:w6.cell? ⟨gb573,0,none⟩=some (.slice A0_0 l0_0.length c0_0):=zx BK573 0;have V7_0:=blk_frozen BK573.1 0)|((with_reducible refine gate_callee (f:=89) rfl ?_);refine zL (some 12) Tryz.func89 #[.agg #[.slice A0_0 l0_0.length c0_0]] ?_;(with_reducible refine (impl_IsGame.calls k _ _ l0_0 true _ ?side1 ?side2 A2.1).mono ?_);(case side1=>repeat (first|exact (Kd.C_below HR0_0.1 HB.1)|(with_reducible refine Kd.C_alloc ?_ _)|(with_reducible refine Kd.C_drewN ?_ _)|(with_reducible refine Kd.C_drew ?_)));(case side2=>exact HC0_0.1);rintro e w8 ⟨rfl,hb⟩;refine ⟨_,rfl,?_⟩;refine zA2 (zY BK573.1 hb) (below_step (zH1 HB.1 GE573.1) hb) ?_;clear BK573 HB;intro BK573 HB;(try clear hb);(try clear hk);have Z9_0:w8.cell? ⟨gb573,0,none⟩=some (.slice A0_0 l0_0.length c0_0):=zx BK573 0;have V9_0:=blk_frozen BK573.1 0)|((with_reducible refine gate_dst (N:=17) rfl ?_);refine Kd.R_make Kd.bool _ 4 rfl (N:=17) rfl 46 _ _ rfl (l0_0.length:Int) rfl rfl Tryz.underlying46 (.bool false) 1 info4 rfl (by decide) (by omega) false (ok:=fun _=>True) (okp:=fun _=>True) rfl (fun _ hk=>hk) trivial zo (Nat.le_trans (Nat.mul_le_mul_right _ (zo:(l0_0.length:Int).toNat≤281474976710656)) (by omega)) (Below.refl _ _) (Nat.le_refl _) ?_;intro v576 w10 ho11 hb hg_ hnew_;clear hg_ hnew_;(first|rw [← Ny575.1] at ho11|(simp only [Int.reduceToNat] at ho11;rw [← Ny575.1] at ho11));refine zA3 (Kd.R_lower ho11 (below_size (zH1 HB.1 GE573.1))) (zY BK573.1 hb) (below_step (zH1 HB.1 GE573.1) hb) ?_;clear BK573 HB;intro HO577 BK573 HB;clear hb ho11;obtain ⟨Ao12,co12,eo12⟩:=Kd.R_slice HO577.1;subst eo12))
    go_loopg [7] k (fun kq v7 w'=>∃ (x6_1:List Bool) (x7_1:Int),v7=.int .i64 x7_1∧Aside0 (impl_backward_bool.l0 kq x6_1 x7_1 l0_0=some (r1,r2))∧Aside0 (kq≤k)∧Aside0 (Kd.R Kd.bool 4 w' w.heap.size (fun _=>True) (.slice Ao12 y575.length co12) x6_1)∧Aside0 (w'.heap[gb573]?=some (.cells #[(.slice A0_0 l0_0.length c0_0)] 43 (0,0)))∧Aside0 (Below w.heap.size w w'))
    case atStart=>exact ⟨(y575),(wrap64 ((y575.length:Int)-1)),(zF),H',⟨Nat.le_refl _⟩,⟨zR HO577.1⟩,⟨zB BK573.1⟩,⟨zH1 HB.1 GE573.1⟩⟩
    case round=>
     clear H'
     try clear p2
     try clear c3
     try clear c4
     try clear c4b0
     try clear c4b1
     try clear c5
     try clear c5b0
     try clear c5b1
     try clear p6
     try clear c8
     try clear Z7_0
     try clear Z9_0
     try clear V7_0
     try clear V9_0
     obtain ⟨x6_1,x7_1,rfl,HA,HK1,HO_6,BK573,HB⟩:=hrel
     have hl6_1:=(Kd.R_reads' HO_6.1).1
     rw [hl6_1] at HO_6
     (try simp only [hl6_1])
     (try simp only [hl6_1] at BK573)
     cases gk with
     |zero=>exact absurd HA.1 (by simp [impl_backward_bool.l0])
     |succ k1=>
      have H:=HA.1
      clear HA
      simp only [impl_backward_bool.l0] at H
      by_cases c13:x7_1≥0
      ·rw [if_pos c13] at H
       have c13b0:=decide_eq_true c13
       clear c13
       obtain ⟨y578,hy578⟩:∃ y_:List Bool,y_=(([]:List Bool)):=⟨_,rfl⟩
       replace H:(if 0≤x7_1 then (if x7_1<(l0_0.length:Int) then (impl_backward_bool.l1 k1 x6_1 x7_1 y578 (rd_L5 l0_0 x7_1) ((rd_L5 l0_0 x7_1).length:Int) 0 l0_0) else (none)) else (none))=some (r1,r2):=by first|(rw [hy578];with_reducible exact H)|(have H2_:=(Option.bind_some _ _).symm.trans H;rw [hy578];with_reducible exact H2_)|(have H2_:=(Option.bind_some _ _).symm.trans H;with_reducible exact H2_)|with_reducible exact H|(rw [hy578];exact H)|exact H
       have Ny578:=Aside0.mk hy578
       clear hy578
       by_cases c14:0≤x7_1
       ·rw [if_pos c14] at H
        have c14b0:=decide_eq_true c14
        clear c14
        by_cases c15:x7_1<(l0_0.length:Int)
        ·rw [if_pos c15] at H
         have c15b0:=decide_eq_true c15
         clear c15
         have H':=Aside0.mk H
         clear H
         go_wp2_with (first|((with_reducible refine gate_dst (N:=25) rfl ?_);refine Kd.R_lit Kd.bool _ 4 ?hg (N:=25) ?hd (xs:=([]:List Bool)) (inner:=[]) (ok:=fun _=>True) (okp:=fun _=>True) ?hr ?hp (fun _ hk=>hk) trivial (Below.refl _ _) (Nat.le_refl _) (by simp) ?_;(case hd=>rfl);(case hg=>rfl);(case hr=>first|(go_simp;done)|(go_simp;rfl));(case hp=>exact (Reps.none _ _));intro v579 w16 ho17 hb hg_ hnew_;clear hg_ hnew_;(first|rw [← Ny578.1] at ho17|(simp only [Int.reduceToNat] at ho17;rw [← Ny578.1] at ho17));refine zA4 (Kd.R_elder' (zR HO_6.1) (Kd.R_base ho17) hb) (Kd.R_lower (Kd.R_new' ho17 (Kd.R_lt (zR HO_6.1))) (below_size (zH1 HB.1 GE573.1))) (zY BK573.1 hb) (below_step (zH1 HB.1 GE573.1) hb) ?_;clear HO_6 BK573 HB;intro HO_6 HO580 BK573 HB;clear hb ho17;have Z18_0:w16.cell? ⟨gb573,0,none⟩=some (.slice A0_0 l0_0.length c0_0):=zx BK573 0;have V18_0:=blk_frozen BK573.1 0;have p581:0≤(x7_1:Int):=zo;have q581:x7_1<(l0_0.length:Int):=zo;obtain ⟨ad581,A581_0,c581_0,e581,hx581_0,hl581_0,hi581_0⟩:=at_L5 HR0_0.1 x7_1 p581 q581;cases e581;replace hx581_0:=zy HB hx581_0;have HR581_0:=Aside0.mk hi581_0;have HC581_0:=Aside0.mk hl581_0;clear hi581_0 hl581_0;replace p581:=eq_true p581;replace q581:=eq_true q581))
         go_loopg [8,32] k1 (fun kq v8 v32 w'=>∃ (x8_2:List Bool) (x32_2:Int),v32=.int .i64 x32_2∧Aside0 (impl_backward_bool.l1 kq x6_1 x7_1 x8_2 (rd_L5 l0_0 x7_1) ((rd_L5 l0_0 x7_1).length:Int) x32_2 l0_0=some (r1,r2))∧Aside0 (kq≤k1)∧Aside0 (Kd.R Kd.bool 4 w' w.heap.size (fun k_=>some k_≠(v8:Value).ownBlock) (.slice Ao12 x6_1.length co12) x6_1)∧Aside0 (Kd.R Kd.bool 4 w' w.heap.size (fun k_=>some k_≠((.slice Ao12 x6_1.length co12):Value).ownBlock) v8 x8_2)∧Aside0 (w'.heap[gb573]?=some (.cells #[(.slice (some ad581) l0_0.length c0_0)] 43 (0,0)))∧Aside0 (Below w.heap.size w w'))
         case atStart=>exact ⟨(y578),(0),(zF),H',⟨Nat.le_refl _⟩,⟨by (try simp only [hl6_1]);exact zRm HO_6.1 (fun _ hk=>hk.2)⟩,⟨by (try simp only [hl6_1]);exact zRm HO580.1 (fun _ hk=>hk.2)⟩,⟨by (try simp only [hl6_1]);exact zB BK573.1⟩,⟨zH1 HB.1 GE573.1⟩⟩
         case round=>
          clear H'
          try clear c1
          try clear p2
          try clear c3
          try clear c4
          try clear c4b0
          try clear c4b1
          try clear c5
          try clear c5b0
          try clear c5b1
          try clear p5
          try clear q5
          try clear hx5
          try clear p6
          try clear c8
          try clear c13
          try clear c13b0
          try clear c14
          try clear c14b0
          try clear c15
          try clear c15b0
          try clear Z18_0
          try clear Z7_0
          try clear Z9_0
          try clear V18_0
          try clear V7_0
          try clear V9_0
          try clear hx581_0
          try clear p2
          try clear p581
          try clear p6
          try clear q581
          obtain ⟨x8_2,x32_2,rfl,HA,HK2,HO_6,HO_8,BK573,HB⟩:=hrel
          cases gk with
          |zero=>exact absurd HA.1 (by simp [impl_backward_bool.l1])
          |succ k2=>
           have H:=HA.1
           clear HA
           simp only [impl_backward_bool.l1] at H
           by_cases c19:x32_2<((rd_L5 l0_0 x7_1).length:Int)
           ·rw [if_pos c19] at H
            have c19b0:=decide_eq_true c19
            clear c19
            by_cases c20:0≤x32_2
            ·rw [if_pos c20] at H
             have c20b0:=decide_eq_true c20
             clear c20
             by_cases c21:x32_2<((rd_L5 l0_0 x7_1).length:Int)
             ·rw [if_pos c21] at H
              have c21b0:=decide_eq_true c21
              clear c21
              by_cases c22:0≤(rd (rd_L5 l0_0 x7_1) x32_2)
              ·rw [if_pos c22] at H
               have c22b0:=decide_eq_true c22
               clear c22
               by_cases c23:(rd (rd_L5 l0_0 x7_1) x32_2)<(x6_1.length:Int)
               ·rw [if_pos c23] at H
                have c23b0:=decide_eq_true c23
                clear c23
                by_cases c24:x8_2.length<140737488355328
                ·rw [if_pos c24] at H
                 have LMc24:=Aside0.mk c24
                 clear c24
                 obtain ⟨y584,hy584⟩:∃ y_:List Bool,y_=(x8_2++[rdOf false x6_1 (rd (rd_L5 l0_0 x7_1) x32_2)]):=⟨_,rfl⟩
                 replace H:(impl_backward_bool.l1 k2 x6_1 x7_1 y584 (rd_L5 l0_0 x7_1) ((rd_L5 l0_0 x7_1).length:Int) (wrap64 (x32_2+1)) l0_0)=some (r1,r2):=by first|(rw [hy584];with_reducible exact H)|(have H2_:=(Option.bind_some _ _).symm.trans H;rw [hy584];with_reducible exact H2_)|(have H2_:=(Option.bind_some _ _).symm.trans H;with_reducible exact H2_)|with_reducible exact H|(rw [hy584];exact H)|exact H
                 have Ny584:=Aside0.mk hy584
                 clear hy584
                 have H':=Aside0.mk H
                 clear H
                 have p582:0≤(x32_2:Int):=zo
                 have q582:x32_2<((rd_L5 l0_0 x7_1).length:Int):=zo
                 obtain ⟨ad582,e582,hx582_0⟩:=Kd.at_int HR581_0.1 x32_2 p582 q582
                 cases e582
                 replace hx582_0:=zy HB hx582_0
                 replace p582:=eq_true p582
                 replace q582:=eq_true q582
                 have p583:0≤((rd (rd_L5 l0_0 x7_1) x32_2):Int):=zo
                 have q583:(rd (rd_L5 l0_0 x7_1) x32_2)<(x6_1.length:Int):=zo
                 obtain ⟨ad583,e583,hx583_0⟩:=Kd.at_bool (Kd.R_reads' HO_6.1).2.2 (rd (rd_L5 l0_0 x7_1) x32_2) p583 q583
                 cases e583
                 replace p583:=eq_true p583
                 replace q583:=eq_true q583
                 go_wp2_with (first|((with_reducible refine gate_builtin (b:=.append) (xs:=#[.tmp 36,.tmp 41]) rfl ?_);at_builtin;refine Kd.R_append Kd.bool (w0:=w) w.heap.size rfl (.tmp 36) (.tmp 41) 46 4 (.bool false) 1 rfl Tryz.underlying46 info4 rfl (by decide) (by omega) u8 x8_2 (rdOf false x6_1 (rd (rd_L5 l0_0 x7_1) x32_2)) [.bool (rdOf false x6_1 (rd (rd_L5 l0_0 x7_1) x32_2))] (fun k_=>some k_≠(.slice (some ad583) x6_1.length co12:Value).ownBlock) (fun _=>False) rfl rfl ?aP (fun _ hk=>hk.elim) ?aF ?aO ?aB ?aS ?aL ?_;(case aP=>exact rfl);(case aB=>exact (zH1 HB.1 GE573.1));(case aF=>exact (fun k_ hk=>Kd.fresh' (Kd.R_lt (zR HO_6.1)) k_ hk));(case aO=>exact (zR HO_8.1));(case aS=>exact (below_size (zH1 HB.1 GE573.1)));(case aL=>have:=LMc24.1;omega);intro v585 w25 ho hb hg hat;rw [← Ny584.1] at ho;refine zA4 (Kd.R_after (ok:=(fun _=>True)) (zRm HO_6.1 (fun _ hk=>⟨trivial,hk⟩)) hg hat) (blk_grown (g:=gb573) (o:=.cells #[.slice (some ad581) l0_0.length c0_0] 43 (0,0)) (zB BK573.1) hg (Kd.R_ne HO_8.1 BK573.1 (by decide))) (hb) (ho) ?_;clear HO_6 BK573 HB HO_8;intro HO_6 BK573 HB HO586;clear ho hb hg hat))
                 go_roundg k2
                 case measure=>have:=HK1.1;have:=HK2.1;omega
                 case rel=>exact ⟨(y584),(wrap64 (x32_2+1)),(zF),H',⟨by have:=HK1.1;have:=HK2.1;omega⟩,⟨by (try simp only [hl6_1]);exact zRm HO_6.1 (fun _ hk=>hk.2)⟩,⟨by (try simp only [hl6_1]);exact zR HO586.1⟩,⟨by (try simp only [hl6_1]);exact zB BK573.1⟩,⟨zH1 HB.1 GE573.1⟩⟩
                ·rw [if_neg c24] at H
                 exact absurd H (by simp)
               ·rw [if_neg c23] at H
                exact absurd H (by simp)
              ·rw [if_neg c22] at H
               exact absurd H (by simp)
             ·rw [if_neg c21] at H
              exact absurd H (by simp)
            ·rw [if_neg c20] at H
             exact absurd H (by simp)
           ·rw [if_neg c19] at H
            have c19b0:=decide_eq_false c19
            clear c19
            obtain ⟨t587,A26,H⟩:=zb H
            by_cases c27:0≤x7_1
            ·rw [if_pos c27] at H
             have c27b0:=decide_eq_true c27
             clear c27
             by_cases c28:x7_1<(x6_1.length:Int)
             ·rw [if_pos c28] at H
              have c28b0:=decide_eq_true c28
              clear c28
              obtain ⟨y588,hy588⟩:∃ y_:List Bool,y_=(x6_1.set (x7_1:Int).toNat t587):=⟨_,rfl⟩
              replace H:(impl_backward_bool.l0 k2 y588 (wrap64 (x7_1-1)) l0_0)=some (r1,r2):=by first|(rw [hy588];with_reducible exact H)|(have H2_:=(Option.bind_some _ _).symm.trans H;rw [hy588];with_reducible exact H2_)|(have H2_:=(Option.bind_some _ _).symm.trans H;with_reducible exact H2_)|with_reducible exact H|(rw [hy588];exact H)|exact H
              have Ny588:=Aside0.mk hy588
              clear hy588
              have H':=Aside0.mk H
              clear H
              obtain ⟨Ao30,co30,eo30⟩:=Kd.R_slice HO_8.1
              subst eo30
              go_wp2_with (first|(go_at_call 55;(with_reducible refine (impl_WonPlaces_1.calls k2 _ _ x8_2 t587 _ ?side1 ?side2 A26.1).mono ?_);(case side1=>repeat (first|exact (Kd.R_reads' HO_8.1).2.2|(with_reducible refine Kd.C_alloc ?_ _)|(with_reducible refine Kd.C_drewN ?_ _)|(with_reducible refine Kd.C_drew ?_)));(case side2=>exact (Kd.R_reads' HO_8.1).2.1);rintro e w' ⟨rfl,⟨nd,rfl⟩⟩;(try (rw [drewN_self wr];generalize hq_:World.drewN wr _=wr;have n0_:Aside0 (Kd.R Kd.bool 4 wr w.heap.size (fun k_=>some k_≠(.slice Ao30 x8_2.length co30:Value).ownBlock) (.slice Ao12 x6_1.length co12) x6_1):=⟨by rw [← hq_];exact (zR HO_6.1)⟩;have n1_:Aside0 (Kd.R Kd.bool 4 wr w.heap.size (fun k_=>some k_≠(.slice Ao12 x6_1.length co12:Value).ownBlock) (.slice Ao30 x8_2.length co30) x8_2):=⟨by rw [← hq_];exact (zR HO_8.1)⟩;have n2_:Aside0 (wr.heap[gb573]?=some (.cells #[.slice (some ad581) l0_0.length c0_0] 43 (0,0))):=⟨by rw [← hq_];exact (zB BK573.1)⟩;have n3_:Aside0 (Below w.heap.size w wr):=⟨by rw [← hq_];exact (zH1 HB.1 GE573.1)⟩;clear HO_6 HO_8 BK573 HB hq_;have HO_6:=n0_;have HO_8:=n1_;have BK573:=n2_;have HB:=n3_;clear n0_ n1_ n2_ n3_));have p29:0≤(x7_1:Int):=zo;have q29:(x7_1:Int)<((x6_1.length:Int):Int):=zo;obtain ⟨go29,co29,eo29,gb29,gl29,cl29,HG29⟩:=Kd.R_form HO_6.1 (by omega);(first|cases eo29|(injection eo29 with ea_ en_ ec_;(first|subst ea_|(injection ea_ with ea_;subst ea_));subst ec_;clear en_));have GB29:=Aside0.mk gb29;have GG29:=Aside0.mk HG29;clear gb29 gl29 HG29;obtain ⟨hx29_0,hf29_0⟩:=Kd.R_celln false HO_6.1 (x7_1:Int) p29 q29;replace p29:=eq_true p29;replace q29:=eq_true q29;obtain ⟨hy31_,hz31_⟩:=Kd.R_celln false HO_6.1 (x7_1:Int) zo zo;have HP31:=Kd.R_putg HO_6.1 (x7_1:Int) t587)|((with_reducible refine gate_store (t:=4) (p:=49) rfl ?_);refine store_event (t:=4) (p:=49) (v:=?vo_w32) (w1:=(wr.setCell ⟨go29,(x7_1:Int).toNat,none⟩ (.bool t587))) ?hg ?ho ?hn ?hr ?_;(case ho=>rfl);(case hg=>rfl);(case hn=>rfl);(case hr=>first|(go_simp;done)|(go_simp;rfl));intro w32 hw;have hg:wr.grownBy w32 (some go29):=(by rw [hw];exact HP31.2);have hp_:Kd.R Kd.bool 4 w32 w.heap.size (fun k_=>some k_≠(.slice Ao30 x8_2.length co30:Value).ownBlock) (.slice (some ⟨go29,0,none⟩) x6_1.length co12) y588:=(by rw [hw,Ny588.1];exact HP31.1);clear HP31;refine zA4 (hp_) (Kd.R_after (v:=(.slice (some ⟨go29,0,none⟩) x6_1.length co12)) (v1:=(.slice (some ⟨go29,0,none⟩) x6_1.length co12)) (ok:=(fun _=>True)) (zRm HO_8.1 (fun _ hk=>⟨trivial,hk⟩)) hg (.inl rfl)) (blk_grown (g:=gb573) (o:=.cells #[.slice (some ad581) l0_0.length c0_0] 43 (0,0)) (zB BK573.1) hg (Kd.R_ne HO_6.1 BK573.1 (by decide))) ((by rw [hw];exact below_set (HB.1) GB29.1:Below w.heap.size w w32)) ?_;clear HO_6 HO_8 BK573 HB;intro HO_6 HO_8 BK573 HB;clear hg hw hp_))
              (try simp only [← hl6_1])
              go_roundg k2
              case measure=>have:=HK1.1;have:=HK2.1;omega
              case rel=>exact ⟨(y588),(wrap64 (x7_1-1)),(zF),H',⟨by have:=HK1.1;have:=HK2.1;omega⟩,⟨by (try simp only [hl6_1]);exact zRm HO_6.1 (fun _ hk=>trivial)⟩,⟨by (try simp only [hl6_1]);exact zB BK573.1⟩,⟨zH1 HB.1 GE573.1⟩⟩
             ·rw [if_neg c28] at H
              exact absurd H (by simp)
            ·rw [if_neg c27] at H
             exact absurd H (by simp)
        ·rw [if_neg c15] at H
         exact absurd H (by simp)
       ·rw [if_neg c14] at H
        exact absurd H (by simp)
      ·rw [if_neg c13] at H
       have c13b0:=decide_eq_false c13
       clear c13
       simp only [Option.some.injEq,Prod.mk.injEq] at H
       obtain ⟨rfl,rfl⟩:=H
       go_wp2
       go_ret2
       exact ⟨_,zE,by (with_reducible repeat (first|apply Kd.R_alloc|apply Kd.R_drewN|apply Kd.R_drew));exact HO_6.1,zH1 HB.1 GE573.1⟩
   ·rw [if_neg c5] at H
    exact absurd H (by simp)
  ·rw [if_neg c4] at H
   exact absurd H (by simp)
 ·replace c3:=Bool.eq_false_iff.mpr c3
  subst c3
  have H1:(some (([]:List Bool),1))=some (r1,r2):=by rw [if_neg (show ¬ (false=true) by decide)] at H;exact H
  clear H
  have H:=H1
  clear H1
  simp only [Option.some.injEq,Prod.mk.injEq] at H
  obtain ⟨rfl,rfl⟩:=H
  go_enter Tryz.func54,Tryz.ntmps54
  go_wp2_with (first|((with_reducible refine gate_dst (N:=2) rfl ?_);refine zX 2 #[.slice A0_0 l0_0.length c0_0] 43 ?_;intro gb573 hg w33 hbox hb;refine zA4 (below_step (zH HB.1) hb) (hbox) (zs hg HB:w.heap.size≤gb573) (zs hg HB:w.heap.size≤gb573) ?_;clear HB;intro HB BK573 GW573 GE573;clear hb hbox hg;have Z34_0:w33.cell? ⟨gb573,0,none⟩=some (.slice A0_0 l0_0.length c0_0):=zx BK573 0;have V34_0:=blk_frozen BK573.1 0)|((with_reducible refine gate_callee (f:=89) rfl ?_);refine zL (some 12) Tryz.func89 #[.agg #[.slice A0_0 l0_0.length c0_0]] ?_;(with_reducible refine (impl_IsGame.calls k _ _ l0_0 false _ ?side1 ?side2 A2.1).mono ?_);(case side1=>repeat (first|exact (Kd.C_below HR0_0.1 HB.1)|(with_reducible refine Kd.C_alloc ?_ _)|(with_reducible refine Kd.C_drewN ?_ _)|(with_reducible refine Kd.C_drew ?_)));(case side2=>exact HC0_0.1);rintro e w35 ⟨rfl,hb⟩;refine ⟨_,rfl,?_⟩;refine zA2 (zY BK573.1 hb) (below_step (zH1 HB.1 GE573.1) hb) ?_;clear BK573 HB;intro BK573 HB;(try clear hb)))
  go_ret2
  exact ⟨_,zE,by first|exact Kd.R_nil _ _ _ _ _|exact Kd.N_nil _ _ _ _ _|exact Kd.V_nil _ _ _ _ _|exact Kd.Q_nil _ _ _ _ _|exact Kd.S_nil _ _ _ _ _,zH1 HB.1 GE573.1⟩
def impl_WonPlaces.f (k:Nat) (l0_0:List (List Int)):Option (List Bool×Int):=(impl_backward_bool.f k l0_0).bind fun bt590=>(some (bt590.1,bt590.2))
theorem impl_WonPlaces.mono:∀ a0 k,LeO (impl_WonPlaces.f k a0) (impl_WonPlaces.f (k+1) a0):=by
 intro a0 k
 unfold impl_WonPlaces.f
 exact zO1 @impl_backward_bool.mono
theorem impl_WonPlaces.calls (k:Nat) (A0_0:Option Addr) (c0_0:Nat) (l0_0:List (List Int)) (r1:List Bool) (r2:Int) (w:World) (hr0_0:Kd.C (Kd.slice 2 (Kd.int .i64)) w A0_0 l0_0.length l0_0) (hc0_0:l0_0.length≤c0_0) (h:impl_WonPlaces.f k l0_0=some (r1,r2)):
 Calls Tryz.prog 20 #[.agg #[.slice A0_0 l0_0.length c0_0]] w fun e w'=>∃ v0_:Value,e=.returned (.tuple #[v0_,.int .i64 r2])∧Kd.R Kd.bool 4 w' w.heap.size (fun _=>True) v0_ r1∧Below w.heap.size w w':=by
 have hu43:=Tryz.underlying43
 have HR0_0:=Aside0.mk hr0_0
 have HC0_0:=Aside0.mk hc0_0
 clear hr0_0 hc0_0
 have HB:=Aside0.mk (Below.refl w.heap.size w)
 have H:((impl_backward_bool.f k l0_0).bind fun bt590=>(some (bt590.1,bt590.2)))=some (r1,r2):=h
 clear h
 obtain ⟨⟨t590,t593⟩,A2,H⟩:=zb H;(try dsimp only at H)
 simp only [Option.some.injEq,Prod.mk.injEq] at H
 obtain ⟨rfl,rfl⟩:=H
 go_enter Tryz.func20,Tryz.ntmps20
 go_wp2_with (first|((with_reducible refine gate_dst (N:=1) rfl ?_);refine zX 1 #[.slice A0_0 l0_0.length c0_0] 43 ?_;intro gb589 hg w3 hbox hb;refine zA4 (below_step (zH HB.1) hb) (hbox) (zs hg HB:w.heap.size≤gb589) (zs hg HB:w.heap.size≤gb589) ?_;clear HB;intro HB BK589 GW589 GE589;clear hb hbox hg;have Z4_0:w3.cell? ⟨gb589,0,none⟩=some (.slice A0_0 l0_0.length c0_0):=zx BK589 0;have V4_0:=blk_frozen BK589.1 0)|((with_reducible refine gate_callee (f:=54) rfl ?_);refine zL (some 5) Tryz.func54 #[.agg #[.slice A0_0 l0_0.length c0_0],.func (.func 55) #[] #[]] ?_;(with_reducible refine (impl_backward_bool.calls k _ _ l0_0 t590 t593 _ ?side1 ?side2 A2.1).mono ?_);(case side1=>repeat (first|exact (Kd.C_below HR0_0.1 HB.1)|(with_reducible refine Kd.C_alloc ?_ _)|(with_reducible refine Kd.C_drewN ?_ _)|(with_reducible refine Kd.C_drew ?_)));(case side2=>exact HC0_0.1);rintro e w5 ⟨v591,rfl,ho0,hb⟩;refine ⟨_,rfl,?_⟩;refine zA3 (Kd.R_lower ho0 (below_size (zH1 HB.1 GE589.1))) (zY BK589.1 hb) (below_step (zH1 HB.1 GE589.1) hb) ?_;clear BK589 HB;intro HO592 BK589 HB;(try clear hb);(try clear ho0)))
 go_ret2
 exact ⟨_,zE,by (with_reducible repeat (first|apply Kd.R_alloc|apply Kd.R_drewN|apply Kd.R_drew));exact HO592.1,zH1 HB.1 GE589.1⟩
def spec_DrawMovesLeft.f (k:Nat) (l0:List Int):Option (Int×Int×Int×Int×Int):=(spec_l05Given.f k l0).bind fun bt595=>(some (bt595.1,bt595.2.1,bt595.2.2.1,bt595.2.2.2.1,bt595.2.2.2.2.1))
theorem spec_DrawMovesLeft.calls (k:Nat) (A0:Option Addr) (c0:Nat) (l0:List Int) (r1:Int) (r2:Int) (r3:Int) (r4:Int) (r5:Int) (w:World) (hr0:Kd.C (Kd.int .u8) w A0 l0.length l0) (hc0:l0.length≤c0) (h:spec_DrawMovesLeft.f k l0=some (r1,r2,r3,r4,r5)):
 Calls Tryz.prog 21 #[.slice A0 l0.length c0] w fun e w'=>e=.returned (.tuple #[.agg #[.int .i64 r1,.int .i64 r2,.int .i64 r3,.int .i64 r4],.int .i64 r5])∧Below w.heap.size w w':=by
 have hu25:=Tryz.underlying25
 have HR0:=Aside0.mk hr0
 have HC0:=Aside0.mk hc0
 clear hr0 hc0
 have HB:=Aside0.mk (Below.refl w.heap.size w)
 have H:((spec_l05Given.f k l0).bind fun bt595=>(some (bt595.1,bt595.2.1,bt595.2.2.1,bt595.2.2.2.1,bt595.2.2.2.2.1)))=some (r1,r2,r3,r4,r5):=h
 clear h
 obtain ⟨⟨t595,t596,t597,t598,t599,t600⟩,A2,H⟩:=zb H;(try dsimp only at H)
 simp only [Option.some.injEq,Prod.mk.injEq] at H
 obtain ⟨rfl,rfl,rfl,rfl,rfl⟩:=H
 go_enter Tryz.func21,Tryz.ntmps21
 go_wp2_with (first|((with_reducible refine gate_dst (N:=2) rfl ?_);refine zX 2 #[.int .i64 0,.int .i64 0,.int .i64 0,.int .i64 0] 25 ?_;intro gb594 hg w3 hbox hb;refine zA4 (below_step (zH HB.1) hb) (hbox) (zs hg HB:w.heap.size≤gb594) (zs hg HB:w.heap.size≤gb594) ?_;clear HB;intro HB BK594 GW594 GE594;clear hb hbox hg)|((with_reducible refine gate_callee (f:=26) rfl ?_);refine zL (some 9) Tryz.func26 #[.slice A0 l0.length c0] ?_;(with_reducible refine (spec_l05Given.calls k _ _ l0 t595 t596 t597 t598 t599 t600 _ ?side1 ?side2 A2.1).mono ?_);(case side1=>repeat (first|exact (Kd.C_below HR0.1 HB.1)|(with_reducible refine Kd.C_alloc ?_ _)|(with_reducible refine Kd.C_drewN ?_ _)|(with_reducible refine Kd.C_drew ?_)));(case side2=>exact HC0.1);rintro e w4 ⟨rfl,hb⟩;refine ⟨_,rfl,?_⟩;refine zA2 (zY BK594.1 hb) (below_step (zH1 HB.1 GE594.1) hb) ?_;clear BK594 HB;intro BK594 HB;(try clear hb))|((with_reducible refine gate_dst (N:=4) rfl ?_);refine zX 4 #[.int .i64 0,.int .i64 0,.int .i64 0,.int .i64 0] 25 ?_;intro gb601 hg w5 hbox hb;refine zA7 (zY BK594.1 hb) (below_step (zH1 HB.1 GE594.1) hb) (hbox) ((zS hg (below_size (zH1 HB.1 GE594.1)):w.heap.size≤gb601)) ((zS hg (below_size (zH1 HB.1 GE594.1)):w.heap.size≤gb601)) ((zl hg (blk_lt (g:=gb594) (o:=.cells #[.int .i64 0,.int .i64 0,.int .i64 0,.int .i64 0] 25 (0,0)) (zB BK594.1)):gb594≠gb601)) ((zg hg (blk_lt (g:=gb594) (o:=.cells #[.int .i64 0,.int .i64 0,.int .i64 0,.int .i64 0] 25 (0,0)) (zB BK594.1)):gb601≠gb594)) ?_;clear BK594 HB;intro BK594 HB BK601 GW601 GE601 NB594_601 NB601_594;clear hb hbox hg;have hnb6:=NB601_594.1;have hnc6:=NB594_601.1;obtain ⟨Z7_0,Z7_1,Z7_2,Z7_3⟩:=zc4 BK601;obtain ⟨V7_0,V7_1,V7_2,V7_3⟩:=zf4 BK601;obtain ⟨Z8_0,Z8_1,Z8_2,Z8_3⟩:=zc4 BK594;obtain ⟨V8_0,V8_1,V8_2,V8_3⟩:=zf4 BK594))
 refine bodyPost_ret (results_ct rfl _ _ gb594 25 #[.int .i64 t595,.int .i64 t596,.int .i64 t597,.int .i64 t598] (0,0) _ rfl (zQ1 BK594.1 NB594_601.1) Tryz.underlying25 rfl (by kernel_rfl)) rfl ?_
 exact ⟨zE,zH2 HB.1 GE594.1 GE601.1⟩
mutual
def spec_l05Left.l0:Nat→Int→Int→List Int→Int→List Int→Int→Int→Int→Int→Int→Int→Int→Option (Int×Int×List Int)
 |0,_,_,_,_,_,_,_,_,_,_,_,_=>none
 |k+1,x1,x2,x3,x10,x12,x13,x14,x15,x605000,x605001,x605002,x605003=>if x15<(x12.length:Int) then (if 0≤x15 then ((spec_l05Move.f x605000 x605001 x605002 x605003 x2 (rd x12 x15)).bind fun bt613=>((spec_l05Left.f k bt613.1 bt613.2.1 bt613.2.2.1 bt613.2.2.2 x1 (wrap64 (1-x2)) x3).bind fun bt617=>(if x15=0 then (spec_l05Left.l0 k x1 x2 bt617.2.2 x10 x12 (wrap64 (bt617.1+1)) (mx x14 (wrap64 (bt617.2.1+1))) (wrap64 (x15+1)) x605000 x605001 x605002 x605003) else (if (wrap64 (bt617.1+1))<x13 then (spec_l05Left.l0 k x1 x2 bt617.2.2 x10 x12 (wrap64 (bt617.1+1)) (mx x14 (wrap64 (bt617.2.1+1))) (wrap64 (x15+1)) x605000 x605001 x605002 x605003) else (spec_l05Left.l0 k x1 x2 bt617.2.2 x10 x12 x13 (mx x14 (wrap64 (bt617.2.1+1))) (wrap64 (x15+1)) x605000 x605001 x605002 x605003))))) else (none)) else (if 0≤x10 then (if x10<(x3.length:Int) then (some (x13,x14,(x3.set (x10:Int).toNat (IntKind.i8.wrap (wrap64 ((wrap64 ((wrap64 (x14*9))+x13))+1)))))) else (none)) else (none))
def spec_l05Left.f:Nat→Int→Int→Int→Int→Int→Int→List Int→Option (Int×Int×List Int)
 |0,_,_,_,_,_,_,_=>none
 |k+1,a0_0,a0_1,a0_2,a0_3,a1,a2,l3=>(spec_l05Place.f k a0_0 a0_1 a0_2 a0_3 a2).bind fun t605=>(if 0≤t605 then (if t605<(l3.length:Int) then (if (rd l3 t605)>0 then (some (Int.tmod (wrap64 ((wrap64 (rd l3 t605))-1)) 9,wrap64 (Int.tdiv (wrap64 ((wrap64 (rd l3 t605))-1)) 9),l3)) else ((spec_l05Points.f k a0_0 a0_1 a0_2 a0_3 a1 a2).bind fun t608=>(spec_l05Left.l0 k a1 a2 l3 t605 t608 0 0 0 a0_0 a0_1 a0_2 a0_3))) else (none)) else (none))
end
def spec_l05Left.T10:Bool×List (List Nat×List Nat):=(true,[([],[]),([],[]),([],[]),([],[]),([2,3],[2,3]),([4],[4]),([0,1,5],[0,1,5]),([],[]),([],[]),([8],[8]),([],[]),([6,7,9,10,6],[6,7,9,10]),([11],[11]),([12],[12]),([12],[12]),([13,11,0,1,2,3,4,5,6,7,8,9,10,11,12,13],[13]),([14,15,0,1,2,3,4,5,6,7,8,9,10,11,12,13,14,15],[14])])
def spec_l05Left.B10:List Nat:=[0,0,0,0,12,28,63,0,0,256,0,2047,4095,8191,8191,16383,65535]
theorem spec_l05Left.tab10:rtab .any (opsOf Tryz.f59 10)=spec_l05Left.T10:=by kernel_rfl
theorem spec_l05Left.bits10:waitsOk spec_l05Left.T10.2 spec_l05Left.B10=true:=by kernel_rfl
theorem spec_l05Left.calls (k:Nat):∀ (a0_0:Int) (a0_1:Int) (a0_2:Int) (a0_3:Int) (a1:Int) (a2:Int) (P3_:Nat→Prop) (u9000_:Value) (l3:List Int) (r1:Int) (r2:Int) (r3:List Int) (w0 w:World) (hB:Below w0.heap.size w0 w) (ho3:Kd.R (Kd.int .i8) 127 w w0.heap.size P3_ u9000_ l3) (h:spec_l05Left.f k a0_0 a0_1 a0_2 a0_3 a1 a2 l3=some (r1,r2,r3)),
 Calls Tryz.prog 59 #[.agg #[.int .i64 a0_0,.int .i64 a0_1,.int .i64 a0_2,.int .i64 a0_3],.int .i64 a1,.int .i64 a2,u9000_] w fun e w'=>e=.returned (.tuple #[.int .i64 r1,.int .i64 r2])∧Kd.R (Kd.int .i8) 127 w' w0.heap.size (fun k_=>(P3_ k_∨w.heap.size≤k_)) u9000_ r3∧Below w0.heap.size w0 w'∧Kept w w' (fun k_=>P3_ k_):=by
 induction k using Nat.strongRecOn with
 |_ k ih=>
 intro a0_0 a0_1 a0_2 a0_3 a1 a2 P3_ u9000_ l3 r1 r2 r3 w0 w hB ho3 h
 cases k with
 |zero=>exact absurd h (by simp [spec_l05Left.f])
 |succ k=>
 simp only [spec_l05Left.f] at h
 have hu25:=Tryz.underlying25
 have HO3:=Aside0.mk (show Kd.R (Kd.int .i8) 127 w w0.heap.size (fun k_=>(P3_ k_∨w.heap.size≤k_)) u9000_ l3 from Kd.R_mono ho3 (fun k_ hk=>(.inl hk)))
 have HK:=Aside0.mk (Kept.refl w (fun k_=>P3_ k_))
 have HW0:=Aside0.mk hB.size
 have HB:=Aside0.mk hB
 clear hB
 have H:((spec_l05Place.f k a0_0 a0_1 a0_2 a0_3 a2).bind fun t605=>(if 0≤t605 then (if t605<(l3.length:Int) then (if (rd l3 t605)>0 then (some (Int.tmod (wrap64 ((wrap64 (rd l3 t605))-1)) 9,wrap64 (Int.tdiv (wrap64 ((wrap64 (rd l3 t605))-1)) 9),l3)) else ((spec_l05Points.f k a0_0 a0_1 a0_2 a0_3 a1 a2).bind fun t608=>(spec_l05Left.l0 k a1 a2 l3 t605 t608 0 0 0 a0_0 a0_1 a0_2 a0_3))) else (none)) else (none)))=some (r1,r2,r3):=h
 clear h
 obtain ⟨t605,A5,H⟩:=zb H
 by_cases c6:0≤t605
 ·rw [if_pos c6] at H
  have c6b0:=decide_eq_true c6
  clear c6
  by_cases c7:t605<(l3.length:Int)
  ·rw [if_pos c7] at H
   have c7b0:=decide_eq_true c7
   clear c7
   by_cases c8:(rd l3 t605)>0
   ·rw [if_pos c8] at H
    have c8b0:=decide_eq_true c8
    clear c8
    simp only [Option.some.injEq,Prod.mk.injEq] at H
    obtain ⟨rfl,rfl,rfl⟩:=H
    go_enter Tryz.func59,Tryz.ntmps59
    go_wp2_with (first|((with_reducible refine gate_dst (N:=4) rfl ?_);refine zX 4 #[.int .i64 a0_0,.int .i64 a0_1,.int .i64 a0_2,.int .i64 a0_3] 25 ?_;intro gb604 hg w9 hbox hb;refine zA6 (Kd.R_below (zR HO3.1) hb) (Kept.below (S:=(fun k_=>P3_ k_)) (zK HK.1) hb) (below_step (zH HB.1) hb) (hbox) ((by rw [hg];exact (by first|exact HK.1.1|exact (show Kept w _ (fun k_=>P3_ k_) from zK HK.1).1):w.heap.size≤gb604)) ((zS hg (below_size (zH HB.1)):w0.heap.size≤gb604)) ?_;clear HO3 HK HB;intro HO3 HK HB BK604 GW604 GE604;clear hb hbox hg;obtain ⟨Z10_0,Z10_1,Z10_2,Z10_3⟩:=zc4 BK604;obtain ⟨V10_0,V10_1,V10_2,V10_3⟩:=zf4 BK604)|((with_reducible refine gate_callee (f:=91) rfl ?_);refine zL (some 20) Tryz.func91 #[.agg #[.int .i64 a0_0,.int .i64 a0_1,.int .i64 a0_2,.int .i64 a0_3],.int .i64 a2] ?_;(with_reducible refine (spec_l05Place.calls k a0_0 a0_1 a0_2 a0_3 a2 t605 _ A5.1).mono ?_);rintro e w11 ⟨rfl,hb⟩;refine ⟨_,rfl,?_⟩;refine zA4 (Kd.R_below (zR HO3.1) hb) (zY BK604.1 hb) (Kept.below (S:=(fun k_=>P3_ k_)) (zK1 HK.1 GW604.1) hb) (below_step (zH1 HB.1 GE604.1) hb) ?_;clear HO3 BK604 HK HB;intro HO3 BK604 HK HB;(try clear hb);obtain ⟨Ao12,co12,eo12⟩:=Kd.R_slice HO3.1;subst eo12;have p606:0≤(t605:Int):=zo;have q606:t605<(l3.length:Int):=zo;obtain ⟨ad606,e606,hx606_0⟩:=Kd.at_int (Kd.R_reads' HO3.1).2.2 t605 p606 q606;cases e606;replace p606:=eq_true p606;replace q606:=eq_true q606;have p607:0≤(t605:Int):=zo;have q607:t605<(l3.length:Int):=zo;obtain ⟨ad607,e607,hx607_0⟩:=Kd.at_int (Kd.R_reads' HO3.1).2.2 t605 p607 q607;obtain rfl:ad606=ad607:=(by injection e607);replace p607:=eq_true p607;replace q607:=eq_true q607))
    go_ret2
    exact ⟨zE,by (with_reducible repeat (first|apply Kd.R_alloc|apply Kd.R_drewN|apply Kd.R_drew));exact HO3.1,zH1 HB.1 GE604.1,zK1 HK.1 GW604.1⟩
   ·rw [if_neg c8] at H
    have c8b0:=decide_eq_false c8
    clear c8
    obtain ⟨t608,A13,H⟩:=zb H
    have H':=Aside0.mk H
    clear H
    go_enter Tryz.func59,Tryz.ntmps59
    go_wp2_with (first|((with_reducible refine gate_dst (N:=4) rfl ?_);refine zX 4 #[.int .i64 a0_0,.int .i64 a0_1,.int .i64 a0_2,.int .i64 a0_3] 25 ?_;intro gb604 hg w14 hbox hb;refine zA6 (Kd.R_below (zR HO3.1) hb) (Kept.below (S:=(fun k_=>P3_ k_)) (zK HK.1) hb) (below_step (zH HB.1) hb) (hbox) ((by rw [hg];exact (by first|exact HK.1.1|exact (show Kept w _ (fun k_=>P3_ k_) from zK HK.1).1):w.heap.size≤gb604)) ((zS hg (below_size (zH HB.1)):w0.heap.size≤gb604)) ?_;clear HO3 HK HB;intro HO3 HK HB BK604 GW604 GE604;clear hb hbox hg;obtain ⟨Z15_0,Z15_1,Z15_2,Z15_3⟩:=zc4 BK604;obtain ⟨V15_0,V15_1,V15_2,V15_3⟩:=zf4 BK604)|((with_reducible refine gate_callee (f:=91) rfl ?_);refine zL (some 20) Tryz.func91 #[.agg #[.int .i64 a0_0,.int .i64 a0_1,.int .i64 a0_2,.int .i64 a0_3],.int .i64 a2] ?_;(with_reducible refine (spec_l05Place.calls k a0_0 a0_1 a0_2 a0_3 a2 t605 _ A5.1).mono ?_);rintro e w16 ⟨rfl,hb⟩;refine ⟨_,rfl,?_⟩;refine zA4 (Kd.R_below (zR HO3.1) hb) (zY BK604.1 hb) (Kept.below (S:=(fun k_=>P3_ k_)) (zK1 HK.1 GW604.1) hb) (below_step (zH1 HB.1 GE604.1) hb) ?_;clear HO3 BK604 HK HB;intro HO3 BK604 HK HB;(try clear hb);obtain ⟨Ao17,co17,eo17⟩:=Kd.R_slice HO3.1;subst eo17;have p606:0≤(t605:Int):=zo;have q606:t605<(l3.length:Int):=zo;obtain ⟨ad606,e606,hx606_0⟩:=Kd.at_int (Kd.R_reads' HO3.1).2.2 t605 p606 q606;cases e606;replace p606:=eq_true p606;replace q606:=eq_true q606;obtain ⟨Z18_0,Z18_1,Z18_2,Z18_3⟩:=zc4 BK604;obtain ⟨V18_0,V18_1,V18_2,V18_3⟩:=zf4 BK604)|((with_reducible refine gate_callee (f:=35) rfl ?_);refine zL (some 39) Tryz.func35 #[.agg #[.int .i64 a0_0,.int .i64 a0_1,.int .i64 a0_2,.int .i64 a0_3],.int .i64 a1,.int .i64 a2] ?_;(with_reducible refine (spec_l05Points.calls k a0_0 a0_1 a0_2 a0_3 a1 a2 t608 _ A13.1).mono ?_);rintro e w19 ⟨v609,rfl,ho0,hb⟩;refine ⟨_,rfl,?_⟩;refine zA5 (Kd.R_below (zR HO3.1) hb) (Kd.R_lower (Kd.R_newM (M:=fun k_=>(P3_ k_∨w.heap.size≤k_)) ho0 (by first|exact HK.1.1|exact (show Kept w _ (fun k_=>P3_ k_) from zK1 HK.1 GW604.1).1) (fun k_ h_=>.inr h_)) (below_size (zH1 HB.1 GE604.1))) (zY BK604.1 hb) (Kept.below (S:=(fun k_=>P3_ k_)) (zK1 HK.1 GW604.1) hb) (below_step (zH1 HB.1 GE604.1) hb) ?_;clear HO3 BK604 HK HB;intro HO3 HO610 BK604 HK HB;(try clear hb);(try clear ho0)))
    go_loopg [13,14,15] k (fun kq v13 v14 v15 w'=>∃ (x3_1:List Int) (x13_1:Int) (x14_1:Int) (x15_1:Int),v13=.int .i64 x13_1∧v14=.int .i64 x14_1∧v15=.int .i64 x15_1∧Aside0 (spec_l05Left.l0 kq a1 a2 x3_1 t605 t608 x13_1 x14_1 x15_1 a0_0 a0_1 a0_2 a0_3=some (r1,r2,r3))∧Aside0 (kq≤k)∧Aside0 (Kd.R (Kd.int .i8) 127 w' w0.heap.size (fun k_=>(P3_ k_∨w.heap.size≤k_)) (.slice (some ad606) l3.length co17) x3_1)∧Aside0 (Kd.R (Kd.int .i64) 2 w' w0.heap.size (fun k_=>(P3_ k_∨w.heap.size≤k_)) v609 t608)∧Aside0 (w'.heap[gb604]?=some (.cells #[.int .i64 a0_0,.int .i64 a0_1,.int .i64 a0_2,.int .i64 a0_3] 25 (0,0)))∧Aside0 (Kept w w' (fun k_=>P3_ k_))∧Aside0 (Below w0.heap.size w0 w'))
    case atStart=>exact ⟨(l3),(0),(0),(0),(zF),(zF),(zF),H',⟨Nat.le_refl _⟩,⟨zR HO3.1⟩,⟨zRm HO610.1 (fun _ hk=>hk.1)⟩,⟨zB BK604.1⟩,⟨zK1 HK.1 GW604.1⟩,⟨zH1 HB.1 GE604.1⟩⟩
    case round=>
     clear H'
     try clear p2
     try clear c3
     try clear c5
     try clear c6
     try clear c6b0
     try clear p6
     try clear q6
     try clear hx6
     try clear c7
     try clear c7b0
     try clear c8
     try clear c8b0
     try clear c9
     try clear Z10_0 Z10_1 Z10_2 Z10_3
     try clear Z15_0 Z15_1 Z15_2 Z15_3
     try clear Z18_0 Z18_1 Z18_2 Z18_3
     try clear V10_0 V10_1 V10_2 V10_3
     try clear V15_0 V15_1 V15_2 V15_3
     try clear V18_0 V18_1 V18_2 V18_3
     try clear hx606_0
     try clear hx607_0
     try clear p606
     try clear p607
     try clear q606
     try clear q607
     obtain ⟨x3_1,x13_1,x14_1,x15_1,rfl,rfl,rfl,HA,HK1,HO_3,HO_12,BK604,HK,HB⟩:=hrel
     have hl3_1:=(Kd.R_reads' HO_3.1).1
     rw [hl3_1] at HO_3
     (try simp only [hl3_1])
     (try simp only [hl3_1] at BK604)
     (try simp only [hl3_1] at HO_12)
     cases gk with
     |zero=>exact absurd HA.1 (by simp [spec_l05Left.l0])
     |succ k1=>
      have H:=HA.1
      clear HA
      simp only [spec_l05Left.l0] at H
      by_cases c20:x15_1<(t608.length:Int)
      ·rw [if_pos c20] at H
       have c20b0:=decide_eq_true c20
       clear c20
       by_cases c21:0≤x15_1
       ·rw [if_pos c21] at H
        have c21b0:=decide_eq_true c21
        clear c21
        obtain ⟨⟨t613,t614,t615,t616⟩,A22,H⟩:=zb H;(try dsimp only at H)
        obtain ⟨⟨t617,t618,t619⟩,A23,H⟩:=zb H;(try dsimp only at H)
        by_cases c24:x15_1=0
        ·rw [if_pos c24] at H
         have c24b0:=zq1 c24
         have c24b1:=zq2 c24
         clear c24
         obtain ⟨ji25,hji25⟩:=zj (mx x14_1 (wrap64 (t618+1)))
         (first|rw [hji25] at H|simp only [hji25] at H)
         (try rw [hji25] at A22)
         (try rw [hji25] at A23)
         have hji25_:(if x14_1<(wrap64 (t618+1)) then (wrap64 (t618+1)) else x14_1)=ji25:=hji25
         have H':=Aside0.mk H
         clear H
         obtain ⟨Ao26,co26,eo26⟩:=Kd.R_slice HO_12.1
         subst eo26
         try go_wp2
         refine zA5 (Kd.R_drew HO_3.1) (Kd.R_drew HO_12.1) (blk_drew BK604.1) (Kept.drew HK.1) (below_drew1 HB.1) ?_
         clear HO_3 HO_12 BK604 HK HB
         intro HO_3 HO_12 BK604 HK HB
         have p612:0≤(x15_1:Int):=zo
         have q612:x15_1<(t608.length:Int):=zo
         obtain ⟨ad612,e612,hx612_0⟩:=Kd.at_int (Kd.R_reads' HO_12.1).2.2 x15_1 p612 q612
         cases e612
         replace p612:=eq_true p612
         replace q612:=eq_true q612
         refine start_ (n:=17) (S:=fun w'=>w'.cell? ⟨gb604,0,none⟩=some (.int .i64 a0_0)∧w'.cell? ⟨gb604,1,none⟩=some (.int .i64 a0_1)∧w'.cell? ⟨gb604,2,none⟩=some (.int .i64 a0_2)∧w'.cell? ⟨gb604,3,none⟩=some (.int .i64 a0_3)∧w'.cell? (ad612.add (x15_1).toNat)=some (.int .i64 (rd t608 x15_1))) (ds:=[]) #[false,false,false,false,false,false,false,false,false,false,false,false,false,false,false,false,false] (by kernel_rfl) rfl rfl ⟨zx BK604 0,zx BK604 1,zx BK604 2,zx BK604 3,hx612_0⟩ (fun hHeld=>?_);refine with_tabW spec_l05Left.tab10 spec_l05Left.bits10 (fun HT_ HW_=>?_)
         generalize wr.drew=w27 at HO_3 HO_12 BK604 HK HB hx612_0 hHeld ⊢
         refine zP HT_ 1 (some 48) rfl rfl ?_
         refine zP HT_ 2 (some 49) rfl rfl ?_
         refine zP HT_ 3 (some 50) rfl rfl ?_
         refine zP HT_ 4 (some 51) rfl rfl ?_
         refine zP HT_ 7 (some 54) rfl rfl ?_
         refine zP HT_ 8 (some 55) rfl rfl ?_
         refine zP HT_ 9 (some 56) rfl rfl ?_
         refine zP HT_ 10 (some 57) rfl rfl ?_
         refine zT HT_ HW_ hHeld 0 (some 47) rfl rfl ?_
         refine zT HT_ HW_ hHeld 5 (some 52) rfl rfl ?_
         refine one_ (i:=6) (N:=some 53) #[true,true,true,true,true,true,true,true,true,true,true,false,false,false,false,false,false] rfl rfl (one_of HT_.1 (by kernel_rfl)) (by decide) (fun K hK=>?_)
         refine goes_ Tryz.func36 (by kernel_rfl) rfl #[.agg #[.int .i64 a0_0,.int .i64 a0_1,.int .i64 a0_2,.int .i64 a0_3],.int .i64 a2,.int .i64 (rd t608 x15_1)] (by rfl) rfl rfl zM ?_
         with_reducible refine (spec_l05Move.calls a0_0 a0_1 a0_2 a0_3 a2 (rd t608 x15_1) t613 t614 t615 t616 _ A22.1).mono ?_
         rintro e w28 ⟨rfl,hb⟩
         have HS4_:=(hb.cell (World.block_lt_of_cell? _ _ (hHeld.2.2.2.2))).trans (hHeld.2.2.2.2)
         refine ⟨_,rfl,?_⟩
         refine zA5 (Kd.R_below (zR HO_3.1) hb) (Kd.R_below (zR HO_12.1) hb) (zY BK604.1 hb) (Kept.below (S:=(fun k_=>P3_ k_)) (zK1 HK.1 GW604.1) hb) (below_step (zH1 HB.1 GE604.1) hb) ?_
         clear HO_3 HO_12 BK604 HK HB
         intro HO_3 HO_12 BK604 HK HB
         (try clear hb)
         (try clear hb2)
         (try clear hk)
         (try clear hi)
         refine hK.out _ _ ⟨zx BK604 0,zx BK604 1,zx BK604 2,zx BK604 3,HS4_⟩ (fun hHeld=>?_)
         clear hK K
         refine zW (some 53) ?_
         refine one_ (i:=11) (N:=some 58) #[true,true,true,true,true,true,true,true,true,true,true,true,false,false,false,false,false] rfl rfl (one_of HT_.1 (by kernel_rfl)) (by decide) (fun K hK=>?_)
         refine goes_ Tryz.func59 (by kernel_rfl) rfl #[.agg #[.int .i64 t613,.int .i64 t614,.int .i64 t615,.int .i64 t616],.int .i64 a1,.int .i64 (wrap64 (1-a2)),.slice (some ad606) x3_1.length co17] (by rfl) rfl rfl zM ?_
         with_reducible refine (ih k1 (by have:=HK1.1;omega) t613 t614 t615 t616 a1 (wrap64 (1-a2)) (fun k_=>some k_=(.slice (some ad606) x3_1.length co17:Value).ownBlock) (.slice (some ad606) x3_1.length co17) x3_1 t617 t618 t619 w0 _ ?side1 ?side2 A23.1).mono ?_
         (case side1=>exact zH1 HB.1 GE604.1)
         (case side2=>exact Kd.R_tight rfl HO_3.1)
         rintro e w29 ⟨rfl,hy0,hb,hkp⟩
         have HS4_:=cell_kept (hHeld.2.2.2.2) hkp (by first|(rw [add_block];exact (fun hs_=>((((Kd.R_apart' HO_12.1 (Kd.R_typed HO_3.1) (by decide))).1 _ rfl).2) hs_))|(show ¬ _;simp only [add_block];exact (fun hs_=>((((Kd.R_apart' HO_12.1 (Kd.R_typed HO_3.1) (by decide))).1 _ rfl).2) hs_))|exact (fun hs_=>((((Kd.R_apart' HO_12.1 (Kd.R_typed HO_3.1) (by decide))).1 _ rfl).2) hs_))
         refine ⟨_,rfl,?_⟩
         refine zA5 (Kd.R_reok rfl hy0 (fun k_ e_=>HO_3.1.1 k_ e_)) (Kd.R_mono (ok':=fun k_=>(P3_ k_∨w.heap.size≤k_)) (Kd.R_keptB ((Kd.R_apart' HO_12.1 (Kd.R_typed HO_3.1) (by decide))) hkp (fun k_ hk_ hs_=>(hk_.2) hs_)) (fun k_ hk_=>hk_.1.1)) (blk_kept (zB BK604.1) hkp (fun hs_=>(fun e_=>(Kd.R_ne HO_3.1 BK604.1 (by decide)) e_) hs_)) (Kept.then_ (S:=(fun k_=>P3_ k_)) (zK1 HK.1 GW604.1) hkp (fun k_ hs_=>(fun e_=>(HO_3.1.1 k_ e_.symm)) hs_)) (hb) ?_
         clear HO_3 HO_12 BK604 HK HB
         intro HO_3 HO_12 BK604 HK HB
         (try clear hb)
         (try clear hkp)
         (try clear hy0)
         refine hK.out _ _ ⟨zx BK604 0,zx BK604 1,zx BK604 2,zx BK604 3,HS4_⟩ (fun hHeld=>?_)
         clear hK K
         refine zW (some 58) ?_
         refine zP HT_ 12 (some 46) rfl rfl ?_
         refine zP HT_ 13 (some 59) rfl rfl ?_
         refine zP HT_ 14 (some 60) rfl rfl ?_
         refine zP HT_ 15 (some 16) rfl rfl ?_
         refine zP HT_ 16 (some 17) rfl rfl ?_
         refine done_ (done_of HT_.1 (by kernel_rfl)) ?_
         try go_wp2
         (try simp only [← hl3_1])
         go_roundg k1
         case measure=>have:=HK1.1;omega
         case rel=>exact ⟨(t619),(wrap64 (t617+1)),(ji25),(wrap64 (x15_1+1)),(zF),(by first|rfl|(simp;done)|(simp only [← hji25] <;> (first|rfl|simp))|(simp [*];done)),(zF),H',⟨by have:=HK1.1;omega⟩,⟨by (try simp only [hl3_1]);exact zR HO_3.1⟩,⟨by (try simp only [hl3_1]);exact zR HO_12.1⟩,⟨by (try simp only [hl3_1]);exact zB BK604.1⟩,⟨zK1 HK.1 GW604.1⟩,⟨zH1 HB.1 GE604.1⟩⟩
        ·rw [if_neg c24] at H
         have c24b0:=zq3 c24
         have c24b1:=zq4 c24
         by_cases c30:(wrap64 (t617+1))<x13_1
         ·rw [if_pos c30] at H
          have c30b0:=decide_eq_true c30
          clear c30
          obtain ⟨ji31,hji31⟩:=zj (mx x14_1 (wrap64 (t618+1)))
          (first|rw [hji31] at H|simp only [hji31] at H)
          (try rw [hji31] at A22)
          (try rw [hji31] at A23)
          have hji31_:(if x14_1<(wrap64 (t618+1)) then (wrap64 (t618+1)) else x14_1)=ji31:=hji31
          have H':=Aside0.mk H
          clear H
          obtain ⟨Ao32,co32,eo32⟩:=Kd.R_slice HO_12.1
          subst eo32
          try go_wp2
          refine zA5 (Kd.R_drew HO_3.1) (Kd.R_drew HO_12.1) (blk_drew BK604.1) (Kept.drew HK.1) (below_drew1 HB.1) ?_
          clear HO_3 HO_12 BK604 HK HB
          intro HO_3 HO_12 BK604 HK HB
          have p612:0≤(x15_1:Int):=zo
          have q612:x15_1<(t608.length:Int):=zo
          obtain ⟨ad612,e612,hx612_0⟩:=Kd.at_int (Kd.R_reads' HO_12.1).2.2 x15_1 p612 q612
          cases e612
          replace p612:=eq_true p612
          replace q612:=eq_true q612
          refine start_ (n:=17) (S:=fun w'=>w'.cell? ⟨gb604,0,none⟩=some (.int .i64 a0_0)∧w'.cell? ⟨gb604,1,none⟩=some (.int .i64 a0_1)∧w'.cell? ⟨gb604,2,none⟩=some (.int .i64 a0_2)∧w'.cell? ⟨gb604,3,none⟩=some (.int .i64 a0_3)∧w'.cell? (ad612.add (x15_1).toNat)=some (.int .i64 (rd t608 x15_1))) (ds:=[]) #[false,false,false,false,false,false,false,false,false,false,false,false,false,false,false,false,false] (by kernel_rfl) rfl rfl ⟨zx BK604 0,zx BK604 1,zx BK604 2,zx BK604 3,hx612_0⟩ (fun hHeld=>?_);refine with_tabW spec_l05Left.tab10 spec_l05Left.bits10 (fun HT_ HW_=>?_)
          generalize wr.drew=w33 at HO_3 HO_12 BK604 HK HB hx612_0 hHeld ⊢
          refine zP HT_ 1 (some 48) rfl rfl ?_
          refine zP HT_ 2 (some 49) rfl rfl ?_
          refine zP HT_ 3 (some 50) rfl rfl ?_
          refine zP HT_ 4 (some 51) rfl rfl ?_
          refine zP HT_ 7 (some 54) rfl rfl ?_
          refine zP HT_ 8 (some 55) rfl rfl ?_
          refine zP HT_ 9 (some 56) rfl rfl ?_
          refine zP HT_ 10 (some 57) rfl rfl ?_
          refine zT HT_ HW_ hHeld 0 (some 47) rfl rfl ?_
          refine zT HT_ HW_ hHeld 5 (some 52) rfl rfl ?_
          refine one_ (i:=6) (N:=some 53) #[true,true,true,true,true,true,true,true,true,true,true,false,false,false,false,false,false] rfl rfl (one_of HT_.1 (by kernel_rfl)) (by decide) (fun K hK=>?_)
          refine goes_ Tryz.func36 (by kernel_rfl) rfl #[.agg #[.int .i64 a0_0,.int .i64 a0_1,.int .i64 a0_2,.int .i64 a0_3],.int .i64 a2,.int .i64 (rd t608 x15_1)] (by rfl) rfl rfl zM ?_
          with_reducible refine (spec_l05Move.calls a0_0 a0_1 a0_2 a0_3 a2 (rd t608 x15_1) t613 t614 t615 t616 _ A22.1).mono ?_
          rintro e w34 ⟨rfl,hb⟩
          have HS4_:=(hb.cell (World.block_lt_of_cell? _ _ (hHeld.2.2.2.2))).trans (hHeld.2.2.2.2)
          refine ⟨_,rfl,?_⟩
          refine zA5 (Kd.R_below (zR HO_3.1) hb) (Kd.R_below (zR HO_12.1) hb) (zY BK604.1 hb) (Kept.below (S:=(fun k_=>P3_ k_)) (zK1 HK.1 GW604.1) hb) (below_step (zH1 HB.1 GE604.1) hb) ?_
          clear HO_3 HO_12 BK604 HK HB
          intro HO_3 HO_12 BK604 HK HB
          (try clear hb)
          (try clear hb2)
          (try clear hk)
          (try clear hi)
          refine hK.out _ _ ⟨zx BK604 0,zx BK604 1,zx BK604 2,zx BK604 3,HS4_⟩ (fun hHeld=>?_)
          clear hK K
          refine zW (some 53) ?_
          refine one_ (i:=11) (N:=some 58) #[true,true,true,true,true,true,true,true,true,true,true,true,false,false,false,false,false] rfl rfl (one_of HT_.1 (by kernel_rfl)) (by decide) (fun K hK=>?_)
          refine goes_ Tryz.func59 (by kernel_rfl) rfl #[.agg #[.int .i64 t613,.int .i64 t614,.int .i64 t615,.int .i64 t616],.int .i64 a1,.int .i64 (wrap64 (1-a2)),.slice (some ad606) x3_1.length co17] (by rfl) rfl rfl zM ?_
          with_reducible refine (ih k1 (by have:=HK1.1;omega) t613 t614 t615 t616 a1 (wrap64 (1-a2)) (fun k_=>some k_=(.slice (some ad606) x3_1.length co17:Value).ownBlock) (.slice (some ad606) x3_1.length co17) x3_1 t617 t618 t619 w0 _ ?side1 ?side2 A23.1).mono ?_
          (case side1=>exact zH1 HB.1 GE604.1)
          (case side2=>exact Kd.R_tight rfl HO_3.1)
          rintro e w35 ⟨rfl,hy0,hb,hkp⟩
          have HS4_:=cell_kept (hHeld.2.2.2.2) hkp (by first|(rw [add_block];exact (fun hs_=>((((Kd.R_apart' HO_12.1 (Kd.R_typed HO_3.1) (by decide))).1 _ rfl).2) hs_))|(show ¬ _;simp only [add_block];exact (fun hs_=>((((Kd.R_apart' HO_12.1 (Kd.R_typed HO_3.1) (by decide))).1 _ rfl).2) hs_))|exact (fun hs_=>((((Kd.R_apart' HO_12.1 (Kd.R_typed HO_3.1) (by decide))).1 _ rfl).2) hs_))
          refine ⟨_,rfl,?_⟩
          refine zA5 (Kd.R_reok rfl hy0 (fun k_ e_=>HO_3.1.1 k_ e_)) (Kd.R_mono (ok':=fun k_=>(P3_ k_∨w.heap.size≤k_)) (Kd.R_keptB ((Kd.R_apart' HO_12.1 (Kd.R_typed HO_3.1) (by decide))) hkp (fun k_ hk_ hs_=>(hk_.2) hs_)) (fun k_ hk_=>hk_.1.1)) (blk_kept (zB BK604.1) hkp (fun hs_=>(fun e_=>(Kd.R_ne HO_3.1 BK604.1 (by decide)) e_) hs_)) (Kept.then_ (S:=(fun k_=>P3_ k_)) (zK1 HK.1 GW604.1) hkp (fun k_ hs_=>(fun e_=>(HO_3.1.1 k_ e_.symm)) hs_)) (hb) ?_
          clear HO_3 HO_12 BK604 HK HB
          intro HO_3 HO_12 BK604 HK HB
          (try clear hb)
          (try clear hkp)
          (try clear hy0)
          refine hK.out _ _ ⟨zx BK604 0,zx BK604 1,zx BK604 2,zx BK604 3,HS4_⟩ (fun hHeld=>?_)
          clear hK K
          refine zW (some 58) ?_
          refine zP HT_ 12 (some 46) rfl rfl ?_
          refine zP HT_ 13 (some 59) rfl rfl ?_
          refine zP HT_ 14 (some 60) rfl rfl ?_
          refine zP HT_ 15 (some 16) rfl rfl ?_
          refine zP HT_ 16 (some 17) rfl rfl ?_
          refine done_ (done_of HT_.1 (by kernel_rfl)) ?_
          try go_wp2
          (try simp only [← hl3_1])
          go_roundg k1
          case measure=>have:=HK1.1;omega
          case rel=>exact ⟨(t619),(wrap64 (t617+1)),(ji31),(wrap64 (x15_1+1)),(zF),(by first|rfl|(simp;done)|(simp only [← hji31] <;> (first|rfl|simp))|(simp [*];done)),(zF),H',⟨by have:=HK1.1;omega⟩,⟨by (try simp only [hl3_1]);exact zR HO_3.1⟩,⟨by (try simp only [hl3_1]);exact zR HO_12.1⟩,⟨by (try simp only [hl3_1]);exact zB BK604.1⟩,⟨zK1 HK.1 GW604.1⟩,⟨zH1 HB.1 GE604.1⟩⟩
         ·rw [if_neg c30] at H
          have c30b0:=decide_eq_false c30
          clear c30
          obtain ⟨ji36,hji36⟩:=zj (mx x14_1 (wrap64 (t618+1)))
          (first|rw [hji36] at H|simp only [hji36] at H)
          (try rw [hji36] at A22)
          (try rw [hji36] at A23)
          have hji36_:(if x14_1<(wrap64 (t618+1)) then (wrap64 (t618+1)) else x14_1)=ji36:=hji36
          have H':=Aside0.mk H
          clear H
          obtain ⟨Ao37,co37,eo37⟩:=Kd.R_slice HO_12.1
          subst eo37
          try go_wp2
          refine zA5 (Kd.R_drew HO_3.1) (Kd.R_drew HO_12.1) (blk_drew BK604.1) (Kept.drew HK.1) (below_drew1 HB.1) ?_
          clear HO_3 HO_12 BK604 HK HB
          intro HO_3 HO_12 BK604 HK HB
          have p612:0≤(x15_1:Int):=zo
          have q612:x15_1<(t608.length:Int):=zo
          obtain ⟨ad612,e612,hx612_0⟩:=Kd.at_int (Kd.R_reads' HO_12.1).2.2 x15_1 p612 q612
          cases e612
          replace p612:=eq_true p612
          replace q612:=eq_true q612
          refine start_ (n:=17) (S:=fun w'=>w'.cell? ⟨gb604,0,none⟩=some (.int .i64 a0_0)∧w'.cell? ⟨gb604,1,none⟩=some (.int .i64 a0_1)∧w'.cell? ⟨gb604,2,none⟩=some (.int .i64 a0_2)∧w'.cell? ⟨gb604,3,none⟩=some (.int .i64 a0_3)∧w'.cell? (ad612.add (x15_1).toNat)=some (.int .i64 (rd t608 x15_1))) (ds:=[]) #[false,false,false,false,false,false,false,false,false,false,false,false,false,false,false,false,false] (by kernel_rfl) rfl rfl ⟨zx BK604 0,zx BK604 1,zx BK604 2,zx BK604 3,hx612_0⟩ (fun hHeld=>?_);refine with_tabW spec_l05Left.tab10 spec_l05Left.bits10 (fun HT_ HW_=>?_)
          generalize wr.drew=w38 at HO_3 HO_12 BK604 HK HB hx612_0 hHeld ⊢
          refine zP HT_ 1 (some 48) rfl rfl ?_
          refine zP HT_ 2 (some 49) rfl rfl ?_
          refine zP HT_ 3 (some 50) rfl rfl ?_
          refine zP HT_ 4 (some 51) rfl rfl ?_
          refine zP HT_ 7 (some 54) rfl rfl ?_
          refine zP HT_ 8 (some 55) rfl rfl ?_
          refine zP HT_ 9 (some 56) rfl rfl ?_
          refine zP HT_ 10 (some 57) rfl rfl ?_
          refine zT HT_ HW_ hHeld 0 (some 47) rfl rfl ?_
          refine zT HT_ HW_ hHeld 5 (some 52) rfl rfl ?_
          refine one_ (i:=6) (N:=some 53) #[true,true,true,true,true,true,true,true,true,true,true,false,false,false,false,false,false] rfl rfl (one_of HT_.1 (by kernel_rfl)) (by decide) (fun K hK=>?_)
          refine goes_ Tryz.func36 (by kernel_rfl) rfl #[.agg #[.int .i64 a0_0,.int .i64 a0_1,.int .i64 a0_2,.int .i64 a0_3],.int .i64 a2,.int .i64 (rd t608 x15_1)] (by rfl) rfl rfl zM ?_
          with_reducible refine (spec_l05Move.calls a0_0 a0_1 a0_2 a0_3 a2 (rd t608 x15_1) t613 t614 t615 t616 _ A22.1).mono ?_
          rintro e w39 ⟨rfl,hb⟩
          have HS4_:=(hb.cell (World.block_lt_of_cell? _ _ (hHeld.2.2.2.2))).trans (hHeld.2.2.2.2)
          refine ⟨_,rfl,?_⟩
          refine zA5 (Kd.R_below (zR HO_3.1) hb) (Kd.R_below (zR HO_12.1) hb) (zY BK604.1 hb) (Kept.below (S:=(fun k_=>P3_ k_)) (zK1 HK.1 GW604.1) hb) (below_step (zH1 HB.1 GE604.1) hb) ?_
          clear HO_3 HO_12 BK604 HK HB
          intro HO_3 HO_12 BK604 HK HB
          (try clear hb)
          (try clear hb2)
          (try clear hk)
          (try clear hi)
          refine hK.out _ _ ⟨zx BK604 0,zx BK604 1,zx BK604 2,zx BK604 3,HS4_⟩ (fun hHeld=>?_)
          clear hK K
          refine zW (some 53) ?_
          refine one_ (i:=11) (N:=some 58) #[true,true,true,true,true,true,true,true,true,true,true,true,false,false,false,false,false] rfl rfl (one_of HT_.1 (by kernel_rfl)) (by decide) (fun K hK=>?_)
          refine goes_ Tryz.func59 (by kernel_rfl) rfl #[.agg #[.int .i64 t613,.int .i64 t614,.int .i64 t615,.int .i64 t616],.int .i64 a1,.int .i64 (wrap64 (1-a2)),.slice (some ad606) x3_1.length co17] (by rfl) rfl rfl zM ?_
          with_reducible refine (ih k1 (by have:=HK1.1;omega) t613 t614 t615 t616 a1 (wrap64 (1-a2)) (fun k_=>some k_=(.slice (some ad606) x3_1.length co17:Value).ownBlock) (.slice (some ad606) x3_1.length co17) x3_1 t617 t618 t619 w0 _ ?side1 ?side2 A23.1).mono ?_
          (case side1=>exact zH1 HB.1 GE604.1)
          (case side2=>exact Kd.R_tight rfl HO_3.1)
          rintro e w40 ⟨rfl,hy0,hb,hkp⟩
          have HS4_:=cell_kept (hHeld.2.2.2.2) hkp (by first|(rw [add_block];exact (fun hs_=>((((Kd.R_apart' HO_12.1 (Kd.R_typed HO_3.1) (by decide))).1 _ rfl).2) hs_))|(show ¬ _;simp only [add_block];exact (fun hs_=>((((Kd.R_apart' HO_12.1 (Kd.R_typed HO_3.1) (by decide))).1 _ rfl).2) hs_))|exact (fun hs_=>((((Kd.R_apart' HO_12.1 (Kd.R_typed HO_3.1) (by decide))).1 _ rfl).2) hs_))
          refine ⟨_,rfl,?_⟩
          refine zA5 (Kd.R_reok rfl hy0 (fun k_ e_=>HO_3.1.1 k_ e_)) (Kd.R_mono (ok':=fun k_=>(P3_ k_∨w.heap.size≤k_)) (Kd.R_keptB ((Kd.R_apart' HO_12.1 (Kd.R_typed HO_3.1) (by decide))) hkp (fun k_ hk_ hs_=>(hk_.2) hs_)) (fun k_ hk_=>hk_.1.1)) (blk_kept (zB BK604.1) hkp (fun hs_=>(fun e_=>(Kd.R_ne HO_3.1 BK604.1 (by decide)) e_) hs_)) (Kept.then_ (S:=(fun k_=>P3_ k_)) (zK1 HK.1 GW604.1) hkp (fun k_ hs_=>(fun e_=>(HO_3.1.1 k_ e_.symm)) hs_)) (hb) ?_
          clear HO_3 HO_12 BK604 HK HB
          intro HO_3 HO_12 BK604 HK HB
          (try clear hb)
          (try clear hkp)
          (try clear hy0)
          refine hK.out _ _ ⟨zx BK604 0,zx BK604 1,zx BK604 2,zx BK604 3,HS4_⟩ (fun hHeld=>?_)
          clear hK K
          refine zW (some 58) ?_
          refine zP HT_ 12 (some 46) rfl rfl ?_
          refine zP HT_ 13 (some 59) rfl rfl ?_
          refine zP HT_ 14 (some 60) rfl rfl ?_
          refine zP HT_ 15 (some 16) rfl rfl ?_
          refine zP HT_ 16 (some 17) rfl rfl ?_
          refine done_ (done_of HT_.1 (by kernel_rfl)) ?_
          try go_wp2
          (try simp only [← hl3_1])
          go_roundg k1
          case measure=>have:=HK1.1;omega
          case rel=>exact ⟨(t619),(x13_1),(ji36),(wrap64 (x15_1+1)),(zF),(by first|rfl|(simp;done)|(simp only [← hji36] <;> (first|rfl|simp))|(simp [*];done)),(zF),H',⟨by have:=HK1.1;omega⟩,⟨by (try simp only [hl3_1]);exact zR HO_3.1⟩,⟨by (try simp only [hl3_1]);exact zR HO_12.1⟩,⟨by (try simp only [hl3_1]);exact zB BK604.1⟩,⟨zK1 HK.1 GW604.1⟩,⟨zH1 HB.1 GE604.1⟩⟩
       ·rw [if_neg c21] at H
        exact absurd H (by simp)
      ·rw [if_neg c20] at H
       have c20b0:=decide_eq_false c20
       clear c20
       by_cases c41:0≤t605
       ·rw [if_pos c41] at H
        have c41b0:=decide_eq_true c41
        clear c41
        by_cases c42:t605<(x3_1.length:Int)
        ·rw [if_pos c42] at H
         have c42b0:=decide_eq_true c42
         clear c42
         obtain ⟨y611,hy611⟩:∃ y_:List Int,y_=(x3_1.set (t605:Int).toNat (IntKind.i8.wrap (wrap64 ((wrap64 ((wrap64 (x14_1*9))+x13_1))+1)))):=⟨_,rfl⟩
         replace H:(some (x13_1,x14_1,y611))=some (r1,r2,r3):=by first|(rw [hy611];with_reducible exact H)|(have H2_:=(Option.bind_some _ _).symm.trans H;rw [hy611];with_reducible exact H2_)|(have H2_:=(Option.bind_some _ _).symm.trans H;with_reducible exact H2_)|with_reducible exact H|(rw [hy611];exact H)|exact H
         have Ny611:=Aside0.mk hy611
         clear hy611
         simp only [Option.some.injEq,Prod.mk.injEq] at H
         obtain ⟨rfl,rfl,rfl⟩:=H
         obtain ⟨Ao44,co44,eo44⟩:=Kd.R_slice HO_12.1
         subst eo44
         have p43:0≤(t605:Int):=zo
         have q43:(t605:Int)<((x3_1.length:Int):Int):=zo
         obtain ⟨go43,co43,eo43,gb43,gl43,cl43,HG43⟩:=Kd.R_form HO_3.1 (by omega)
         (first|cases eo43|(injection eo43 with ea_ en_ ec_;(first|subst ea_|(injection ea_ with ea_;subst ea_));subst ec_;clear en_))
         have GB43:=Aside0.mk gb43
         have GG43:=Aside0.mk HG43
         clear gb43 gl43 HG43
         have HMgo43:=Aside0.mk (show (P3_ go43∨w.heap.size≤go43) from (HO_3.1.1 _ rfl))
         (first|simp only [add_plain] at hx606_0|skip)
         (first|simp only [add_plain] at hx607_0|skip)
         obtain ⟨hx43_0,hf43_0⟩:=Kd.R_celln 0 HO_3.1 (t605:Int) p43 q43
         replace p43:=eq_true p43
         replace q43:=eq_true q43
         have HP45:=Kd.R_putg HO_3.1 (t605:Int) (IntKind.i8.wrap (wrap64 ((wrap64 ((wrap64 (x14_1*9))+x13_1))+1)))
         go_wp2_with (first|((with_reducible refine gate_store (t:=127) (p:=83) rfl ?_);refine store_event (t:=127) (p:=83) (v:=?vo_w46) (w1:=(wr.setCell ⟨go43,(t605:Int).toNat,none⟩ (.int .i8 (IntKind.i8.wrap (wrap64 ((wrap64 ((wrap64 (x14_1*9))+x13_1))+1)))))) ?hg ?ho ?hn ?hr ?_;(case ho=>rfl);(case hg=>rfl);(case hn=>rfl);(case hr=>first|(go_simp;done)|(go_simp;rfl));intro w46 hw;have hg:wr.grownBy w46 (some go43):=(by rw [hw];exact HP45.2);have hp_:Kd.R (Kd.int .i8) 127 w46 w0.heap.size (fun k_=>(P3_ k_∨w.heap.size≤k_)) (.slice (some ⟨go43,0,none⟩) x3_1.length co17) y611:=(by rw [hw,Ny611.1];exact HP45.1);clear HP45;refine zA5 (hp_) (Kd.R_over' (v:=(.slice (some ⟨go43,0,none⟩) x3_1.length co17)) (zR HO_12.1) (Kd.R_typed HO_3.1) (by decide) hg) (blk_grown (g:=gb604) (o:=.cells #[.int .i64 a0_0,.int .i64 a0_1,.int .i64 a0_2,.int .i64 a0_3] 25 (0,0)) (zB BK604.1) hg (Kd.R_ne HO_3.1 BK604.1 (by decide))) ((by rw [hw];exact below_set (HB.1) GB43.1:Below w0.heap.size w0 w46)) (Kept.of_grown (S:=(fun k_=>P3_ k_)) hg (zK1 HK.1 GW604.1) (fun k_ e_=>(HO_3.1.1 k_ e_))) ?_;clear HO_3 HO_12 BK604 HB HK;intro HO_3 HO_12 BK604 HB HK;clear hg hw hp_))
         go_ret2
         exact ⟨zE,(by first|exact (zR HO_3.1)|(simp only [hl3_1];exact (zR HO_3.1))),zH1 HB.1 GE604.1,zK1 HK.1 GW604.1⟩
        ·rw [if_neg c42] at H
         exact absurd H (by simp)
       ·rw [if_neg c41] at H
        exact absurd H (by simp)
  ·rw [if_neg c7] at H
   exact absurd H (by simp)
 ·rw [if_neg c6] at H
  exact absurd H (by simp)
def spec_MovesLeft.f (k:Nat) (a0_0:Int) (a0_1:Int) (a0_2:Int) (a0_3:Int) (a1:Int):Option (Int×Int×Int):=(spec_l05Code.f k a0_0 a0_1 a0_2 a0_3 a1).bind fun t621=>(if t621=0 then ((spec_l05Table.f k a0_0 a0_1 a0_2 a0_3).bind fun t622=>((spec_l05Left.f k a0_0 a0_1 a0_2 a0_3 a1 0 t622).bind fun bt625=>(some (bt625.1,bt625.2.1,0)))) else (some (0,0,t621)))
def spec_MovesLeft.T4:Bool×List (List Nat×List Nat):=(true,[([],[]),([],[]),([],[]),([2],[2]),([0,1,3,3],[0,1,3]),([4],[4]),([5],[5]),([5],[5]),([6,4,0,1,2,3,4,5,6],[6]),([7,8,0,1,2,3,4,5,6,7,8],[7])])
def spec_MovesLeft.B4:List Nat:=[0,0,0,4,15,31,63,63,127,511]
theorem spec_MovesLeft.tab4:rtab .any (opsOf Tryz.f23 4)=spec_MovesLeft.T4:=by kernel_rfl
theorem spec_MovesLeft.bits4:waitsOk spec_MovesLeft.T4.2 spec_MovesLeft.B4=true:=by kernel_rfl
theorem spec_MovesLeft.calls (k:Nat) (a0_0:Int) (a0_1:Int) (a0_2:Int) (a0_3:Int) (a1:Int) (r1:Int) (r2:Int) (r3:Int) (w:World) (h:spec_MovesLeft.f k a0_0 a0_1 a0_2 a0_3 a1=some (r1,r2,r3)):
 Calls Tryz.prog 23 #[.agg #[.int .i64 a0_0,.int .i64 a0_1,.int .i64 a0_2,.int .i64 a0_3],.int .i64 a1] w fun e w'=>e=.returned (.tuple #[.int .i64 r1,.int .i64 r2,.int .i64 r3])∧Below w.heap.size w w':=by
 have hu25:=Tryz.underlying25
 have HB:=Aside0.mk (Below.refl w.heap.size w)
 have H:((spec_l05Code.f k a0_0 a0_1 a0_2 a0_3 a1).bind fun t621=>(if t621=0 then ((spec_l05Table.f k a0_0 a0_1 a0_2 a0_3).bind fun t622=>((spec_l05Left.f k a0_0 a0_1 a0_2 a0_3 a1 0 t622).bind fun bt625=>(some (bt625.1,bt625.2.1,0)))) else (some (0,0,t621))))=some (r1,r2,r3):=h
 clear h
 obtain ⟨t621,A3,H⟩:=zb H
 by_cases c4:t621=0
 ·rw [if_pos c4] at H
  have c4b0:=zq1 c4
  have c4b1:=zq2 c4
  clear c4
  obtain ⟨t622,A5,H⟩:=zb H
  obtain ⟨⟨t625,t626,t627⟩,A6,H⟩:=zb H;(try dsimp only at H)
  simp only [Option.some.injEq,Prod.mk.injEq] at H
  obtain ⟨rfl,rfl,rfl⟩:=H
  go_enter Tryz.func23,Tryz.ntmps23
  try go_wp2_with (first|((with_reducible refine gate_dst (N:=2) rfl ?_);refine zX 2 #[.int .i64 a0_0,.int .i64 a0_1,.int .i64 a0_2,.int .i64 a0_3] 25 ?_;intro gb620 hg w7 hbox hb;refine zA4 (below_step (zH HB.1) hb) (hbox) (zs hg HB:w.heap.size≤gb620) (zs hg HB:w.heap.size≤gb620) ?_;clear HB;intro HB BK620 GW620 GE620;clear hb hbox hg;obtain ⟨Z8_0,Z8_1,Z8_2,Z8_3⟩:=zc4 BK620;obtain ⟨V8_0,V8_1,V8_2,V8_3⟩:=zf4 BK620)|((with_reducible refine gate_callee (f:=58) rfl ?_);refine zL (some 12) Tryz.func58 #[.agg #[.int .i64 a0_0,.int .i64 a0_1,.int .i64 a0_2,.int .i64 a0_3],.int .i64 a1] ?_;(with_reducible refine (spec_l05Code.calls k a0_0 a0_1 a0_2 a0_3 a1 t621 _ A3.1).mono ?_);rintro e w9 ⟨rfl,hb⟩;refine ⟨_,rfl,?_⟩;refine zA2 (zY BK620.1 hb) (below_step (zH1 HB.1 GE620.1) hb) ?_;clear BK620 HB;intro BK620 HB;(try clear hb)))
  refine zA2 (blk_drew BK620.1) (below_drew1 HB.1) ?_
  clear BK620 HB
  intro BK620 HB
  refine start_ (n:=10) (S:=fun w'=>w'.cell? ⟨gb620,0,none⟩=some (.int .i64 a0_0)∧w'.cell? ⟨gb620,1,none⟩=some (.int .i64 a0_1)∧w'.cell? ⟨gb620,2,none⟩=some (.int .i64 a0_2)∧w'.cell? ⟨gb620,3,none⟩=some (.int .i64 a0_3)) (ds:=[]) #[false,false,false,false,false,false,false,false,false,false] (by kernel_rfl) rfl rfl ⟨zx BK620 0,zx BK620 1,zx BK620 2,zx BK620 3⟩ (fun hHeld=>?_);refine with_tabW spec_MovesLeft.tab4 spec_MovesLeft.bits4 (fun HT_ HW_=>?_)
  generalize w9.drew=w10 at BK620 HB hHeld ⊢
  refine zP HT_ 1 (some 18) rfl rfl ?_
  refine zT HT_ HW_ hHeld 0 (some 17) rfl rfl ?_
  refine zT HT_ HW_ hHeld 2 (some 19) rfl rfl ?_
  refine one_ (i:=3) (N:=some 20) #[true,true,true,true,false,false,false,false,false,false] rfl rfl (one_of HT_.1 (by kernel_rfl)) (by decide) (fun K hK=>?_)
  refine goes_ Tryz.func33 (by kernel_rfl) rfl #[.agg #[.int .i64 a0_0,.int .i64 a0_1,.int .i64 a0_2,.int .i64 a0_3]] (by rfl) rfl rfl zM ?_
  with_reducible refine (spec_l05Table.calls k a0_0 a0_1 a0_2 a0_3 t622 _ A5.1).mono ?_
  rintro e w11 ⟨v623,rfl,ho0,hb⟩
  refine ⟨_,rfl,?_⟩
  refine zA3 (Kd.R_lower ho0 (below_size (zH1 HB.1 GE620.1))) (zY BK620.1 hb) (below_step (zH1 HB.1 GE620.1) hb) ?_
  clear BK620 HB
  intro HO624 BK620 HB
  (try clear hb)
  (try clear hb2)
  (try clear hk)
  (try clear hi)
  (try clear ho0)
  obtain ⟨Ao12,co12,eo12⟩:=Kd.R_slice HO624.1
  (first|subst eo12|(injection eo12 with f1_ f2_ f3_;have f4_:=f1_.symm;have f5_:=f3_.symm;clear f1_ f2_ f3_;subst f4_;subst f5_))
  refine hK.out _ _ ⟨zx BK620 0,zx BK620 1,zx BK620 2,zx BK620 3⟩ (fun hHeld=>?_)
  clear hK K
  refine zW (some 20) ?_
  refine one_ (i:=4) (N:=some 21) #[true,true,true,true,true,false,false,false,false,false] rfl rfl (one_of HT_.1 (by kernel_rfl)) (by decide) (fun K hK=>?_)
  refine goes_ Tryz.func59 (by kernel_rfl) rfl #[.agg #[.int .i64 a0_0,.int .i64 a0_1,.int .i64 a0_2,.int .i64 a0_3],.int .i64 a1,.int .i64 0,.slice Ao12 t622.length co12] (by rfl) rfl rfl zM ?_
  with_reducible refine (spec_l05Left.calls k a0_0 a0_1 a0_2 a0_3 a1 0 (fun k_=>some k_=(.slice Ao12 t622.length co12:Value).ownBlock) (.slice Ao12 t622.length co12) t622 t625 t626 t627 w _ ?side1 ?side2 A6.1).mono ?_
  (case side1=>exact zH1 HB.1 GE620.1)
  (case side2=>exact Kd.R_tight rfl HO624.1)
  rintro e w13 ⟨rfl,hy0,hb,hkp⟩
  refine ⟨_,rfl,?_⟩
  refine zA3 (blk_kept (zB BK620.1) hkp (fun hs_=>(fun e_=>(Kd.R_ne HO624.1 BK620.1 (by decide)) e_) hs_)) (Kd.R_reok rfl hy0 (fun k_ e_=>HO624.1.1 k_ e_)) (hb) ?_
  clear BK620 HO624 HB
  intro BK620 HO624 HB
  (try clear hb)
  (try clear hkp)
  (try clear hy0)
  refine hK.out _ _ ⟨zx BK620 0,zx BK620 1,zx BK620 2,zx BK620 3⟩ (fun hHeld=>?_)
  clear hK K
  refine zW (some 21) ?_
  refine zP HT_ 5 (some 16) rfl rfl ?_
  refine zP HT_ 6 (some 22) rfl rfl ?_
  refine zP HT_ 7 (some 23) rfl rfl ?_
  refine zP HT_ 8 (some 8) rfl rfl ?_
  refine zP HT_ 9 (some 9) rfl rfl ?_
  refine done_ (done_of HT_.1 (by kernel_rfl)) ?_
  try go_wp2
  go_ret3
  exact ⟨zE,zH1 HB.1 GE620.1⟩
 ·rw [if_neg c4] at H
  have c4b0:=zq3 c4
  have c4b1:=zq4 c4
  simp only [Option.some.injEq,Prod.mk.injEq] at H
  obtain ⟨rfl,rfl,rfl⟩:=H
  go_enter Tryz.func23,Tryz.ntmps23
  go_wp2_with (first|((with_reducible refine gate_dst (N:=2) rfl ?_);refine zX 2 #[.int .i64 a0_0,.int .i64 a0_1,.int .i64 a0_2,.int .i64 a0_3] 25 ?_;intro gb620 hg w14 hbox hb;refine zA4 (below_step (zH HB.1) hb) (hbox) (zs hg HB:w.heap.size≤gb620) (zs hg HB:w.heap.size≤gb620) ?_;clear HB;intro HB BK620 GW620 GE620;clear hb hbox hg;obtain ⟨Z15_0,Z15_1,Z15_2,Z15_3⟩:=zc4 BK620;obtain ⟨V15_0,V15_1,V15_2,V15_3⟩:=zf4 BK620)|((with_reducible refine gate_callee (f:=58) rfl ?_);refine zL (some 12) Tryz.func58 #[.agg #[.int .i64 a0_0,.int .i64 a0_1,.int .i64 a0_2,.int .i64 a0_3],.int .i64 a1] ?_;(with_reducible refine (spec_l05Code.calls k a0_0 a0_1 a0_2 a0_3 a1 t621 _ A3.1).mono ?_);rintro e w16 ⟨rfl,hb⟩;refine ⟨_,rfl,?_⟩;refine zA2 (zY BK620.1 hb) (below_step (zH1 HB.1 GE620.1) hb) ?_;clear BK620 HB;intro BK620 HB;(try clear hb)))
  go_ret3
  exact ⟨zE,zH1 HB.1 GE620.1⟩
def spec_DrawIsMatching.l0:Nat→List Int→Int→Int→List Int→Int→Int→Int→Int→Int→Int→Option (Int×Int×Int×Int×List Int)
 |0,_,_,_,_,_,_,_,_,_,_=>none
 |k+1,x6,x7,x8,x633000,x633001,x633002,x646000,x646001,x646002,x646003=>if x8<x646000 then (if x646000=0 then (none) else (if x6.length<17592186044416 then (spec_DrawIsMatching.l0 k (x6++[Int.tmod (wrap64 (x8+x7)) x646000]) x7 (wrap64 (x8+1)) x633000 x633001 x633002 x646000 x646001 x646002 x646003) else (none))) else ((spec_l01Next.f x633000 x633001 x633002 8).bind fun bt649=>(if bt649.1=0 then (if x6.length<17592186044416 then ((spec_l05Bad.f x633000 bt649.2.1 bt649.2.2 x646000 x646001 x646002 x646003).bind fun bt655=>(some (bt655.1,bt655.2.1,bt655.2.2.1,bt655.2.2.2.1,(x6++[0])))) else (none)) else (if bt649.1=1 then ((spec_l01Pick.f x633000 bt649.2.1 bt649.2.2 (([(-1),x646000,0]:List Int))).bind fun bt664=>(if 0<(x6.length:Int) then ((spec_l05Bad.f x633000 bt664.2.1 bt664.2.2 x646000 x646001 x646002 x646003).bind fun bt668=>(some (bt668.1,bt668.2.1,bt668.2.2.1,bt668.2.2.2.1,(x6.set (0:Int).toNat bt664.1)))) else (none))) else (if bt649.1=2 then (if 0<(x6.length:Int) then (if 0≤(wrap64 ((x6.length:Int)-1)) then (if (wrap64 ((x6.length:Int)-1))<(x6.length:Int) then ((spec_l05Bad.f x633000 bt649.2.1 bt649.2.2 x646000 x646001 x646002 x646003).bind fun bt678=>(some (bt678.1,bt678.2.1,bt678.2.2.1,bt678.2.2.2.1,((x6.set (0:Int).toNat (rd x6 (wrap64 ((x6.length:Int)-1)))).set ((wrap64 ((x6.length:Int)-1)):Int).toNat (rd x6 0))))) else (none)) else (none)) else (none)) else ((spec_l05Bad.f x633000 bt649.2.1 bt649.2.2 x646000 x646001 x646002 x646003).bind fun bt684=>(some (bt684.1,bt684.2.1,bt684.2.2.1,bt684.2.2.2.1,x6)))))))
def spec_DrawIsMatching.f (k:Nat) (l0:List Int):Option (Int×Int×Int×Int×List Int):=(spec_l01From.f k l0).bind fun bt629=>((spec_l01Next.f bt629.1 bt629.2.1 bt629.2.2 2).bind fun bt633=>((spec_l05Twice.f k bt629.1 bt633.2.1 bt633.2.2 bt633.1).bind fun bt636=>(spec_DrawIsMatching.l0 k (([]:List Int)) (wrap64 (Int.tdiv bt636.1 2)) 0 bt629.1 bt636.2.2.2.2.1 bt636.2.2.2.2.2 bt636.1 bt636.2.1 bt636.2.2.1 bt636.2.2.2.1)))
theorem spec_DrawIsMatching.calls (k:Nat) (A0:Option Addr) (c0:Nat) (l0:List Int) (r1:Int) (r2:Int) (r3:Int) (r4:Int) (r5:List Int) (w:World) (hr0:Kd.C (Kd.int .u8) w A0 l0.length l0) (hc0:l0.length≤c0) (h:spec_DrawIsMatching.f k l0=some (r1,r2,r3,r4,r5)):
 Calls Tryz.prog 24 #[.slice A0 l0.length c0] w fun e w'=>∃ v4_:Value,e=.returned (.tuple #[.agg #[.int .i64 r1,.int .i64 r2,.int .i64 r3,.int .i64 r4],v4_])∧Kd.R (Kd.int .i64) 2 w' w.heap.size (fun _=>True) v4_ r5∧Below w.heap.size w w':=by
 have hu25:=Tryz.underlying25
 have HR0:=Aside0.mk hr0
 have HC0:=Aside0.mk hc0
 clear hr0 hc0
 have HB:=Aside0.mk (Below.refl w.heap.size w)
 have H:((spec_l01From.f k l0).bind fun bt629=>((spec_l01Next.f bt629.1 bt629.2.1 bt629.2.2 2).bind fun bt633=>((spec_l05Twice.f k bt629.1 bt633.2.1 bt633.2.2 bt633.1).bind fun bt636=>(spec_DrawIsMatching.l0 k (([]:List Int)) (wrap64 (Int.tdiv bt636.1 2)) 0 bt629.1 bt636.2.2.2.2.1 bt636.2.2.2.2.2 bt636.1 bt636.2.1 bt636.2.2.1 bt636.2.2.2.1))))=some (r1,r2,r3,r4,r5):=h
 clear h
 obtain ⟨⟨t629,t630,t631⟩,A2,H⟩:=zb H;(try dsimp only at H)
 obtain ⟨⟨t633,t634,t635⟩,A3,H⟩:=zb H;(try dsimp only at H)
 obtain ⟨⟨t636,t637,t638,t639,t640,t641⟩,A4,H⟩:=zb H;(try dsimp only at H)
 obtain ⟨y642,hy642⟩:∃ y_:List Int,y_=(([]:List Int)):=⟨_,rfl⟩
 replace H:(spec_DrawIsMatching.l0 k y642 (wrap64 (Int.tdiv t636 2)) 0 t629 t640 t641 t636 t637 t638 t639)=some (r1,r2,r3,r4,r5):=by first|(rw [hy642];with_reducible exact H)|(have H2_:=(Option.bind_some _ _).symm.trans H;rw [hy642];with_reducible exact H2_)|(have H2_:=(Option.bind_some _ _).symm.trans H;with_reducible exact H2_)|with_reducible exact H|(rw [hy642];exact H)|exact H
 have Ny642:=Aside0.mk hy642
 clear hy642
 have H':=Aside0.mk H
 clear H
 go_enter Tryz.func24,Tryz.ntmps24
 go_wp2_with (first|((with_reducible refine gate_dst (N:=2) rfl ?_);refine zX 2 #[.int .i64 0,.int .i64 0,.int .i64 0,.int .i64 0] 25 ?_;intro gb628 hg w5 hbox hb;refine zA4 (below_step (zH HB.1) hb) (hbox) (zs hg HB:w.heap.size≤gb628) (zs hg HB:w.heap.size≤gb628) ?_;clear HB;intro HB BK628 GW628 GE628;clear hb hbox hg)|((with_reducible refine gate_callee (f:=41) rfl ?_);refine zL (some 11) Tryz.func41 #[.slice A0 l0.length c0] ?_;(with_reducible refine (spec_l01From.calls k _ _ l0 t629 t630 t631 w _ ?side1 ?side2 ?side3 A2.1).mono ?_);(case side1=>exact zH1 HB.1 GE628.1);(case side2=>exact HR0.1);(case side3=>exact HC0.1);rintro e w6 ⟨g632,rfl,hi,hb,hb2⟩;refine ⟨_,rfl,?_⟩;refine zA5 (zY BK628.1 hb2) (hb) (hi) (IsS115.ne_blk hi (zY BK628.1 hb2) (by decide)) (Ne.symm (IsS115.ne_blk hi (zY BK628.1 hb2) (by decide))) ?_;clear BK628 HB;intro BK628 HB HI632 NB632_628 NB628_632;(try clear hb);(try clear hb2);(try clear hk);(try clear hi))|((with_reducible refine gate_callee (f:=42) rfl ?_);refine zL (some 14) Tryz.func42 #[.pointer (some ⟨g632,0,none⟩),.int .i64 2] ?_;(with_reducible refine (spec_l01Next.calls g632 t629 t630 t631 2 t633 t634 t635 w _ ?side1 ?side2 A3.1).mono ?_);(case side1=>exact zI1 HI632.1 NB632_628.1);(case side2=>exact zH2 HB.1 (IsS115.ge HI632.1) GE628.1);rintro e w7 ⟨rfl,hi,hb,hk⟩;refine ⟨_,rfl,?_⟩;refine zA3 (zYk hk BK628.1 NB628_632.1) (hb) (hi) ?_;clear BK628 HB HI632;intro BK628 HB HI632;(try clear hb);(try clear hb2);(try clear hk);(try clear hi))|((with_reducible refine gate_callee (f:=44) rfl ?_);refine zL (some 15) Tryz.func44 #[.pointer (some ⟨g632,0,none⟩),.int .i64 t633] ?_;(with_reducible refine (spec_l05Twice.calls k g632 t629 t634 t635 t633 t636 t637 t638 t639 t640 t641 w _ ?side1 ?side2 A4.1).mono ?_);(case side1=>exact zI1 HI632.1 NB632_628.1);(case side2=>exact zH2 HB.1 (IsS115.ge HI632.1) GE628.1);rintro e w8 ⟨rfl,hi,hb,hk⟩;refine ⟨_,rfl,?_⟩;refine zA3 (zYk hk BK628.1 NB628_632.1) (hb) (hi) ?_;clear BK628 HB HI632;intro BK628 HB HI632;(try clear hb);(try clear hb2);(try clear hk);(try clear hi))|((with_reducible refine gate_dst (N:=16) rfl ?_);refine Kd.R_lit (Kd.int .i64) _ 2 ?hg (N:=16) ?hd (xs:=([]:List Int)) (inner:=[]) (ok:=fun _=>True) (okp:=fun _=>True) ?hr ?hp (fun _ hk=>hk) trivial (Below.refl _ _) (Nat.le_refl _) (by simp) ?_;(case hd=>rfl);(case hg=>rfl);(case hr=>first|(go_simp;done)|(go_simp;rfl));(case hp=>exact (Reps.none _ _));intro v643 w9 ho10 hb hg_ hnew_;clear hg_ hnew_;(first|rw [← Ny642.1] at ho10|(simp only [Int.reduceToNat] at ho10;rw [← Ny642.1] at ho10));refine zA4 (Kd.R_lower ho10 (below_size (zH2 HB.1 (IsS115.ge HI632.1) GE628.1))) (zY BK628.1 hb) (IsS115.below (zI1 HI632.1 NB632_628.1) hb) (below_step (zH2 HB.1 (IsS115.ge HI632.1) GE628.1) hb) ?_;clear BK628 HI632 HB;intro HO644 BK628 HI632 HB;clear hb ho10)|((with_reducible refine gate_dst (N:=5) rfl ?_);refine zX 5 #[.int .i64 0,.int .i64 0,.int .i64 0,.int .i64 0] 25 ?_;intro gb645 hg w11 hbox hb;refine zA11 (Kd.R_below (zR HO644.1) hb) (zY BK628.1 hb) (IsS115.below (zI1 HI632.1 NB632_628.1) hb) (below_step (zH2 HB.1 (IsS115.ge HI632.1) GE628.1) hb) (hbox) ((by rw [hg];exact (below_size (zH2 HB.1 (IsS115.ge HI632.1) GE628.1)):w.heap.size≤gb645)) ((by rw [hg];exact (below_size (zH2 HB.1 (IsS115.ge HI632.1) GE628.1)):w.heap.size≤gb645)) ((zl hg (blk_lt (g:=gb628) (o:=.cells #[.int .i64 0,.int .i64 0,.int .i64 0,.int .i64 0] 25 (0,0)) (zB BK628.1)):gb628≠gb645)) ((zg hg (blk_lt (g:=gb628) (o:=.cells #[.int .i64 0,.int .i64 0,.int .i64 0,.int .i64 0] 25 (0,0)) (zB BK628.1)):gb645≠gb628)) ((zl hg (IsS115.lt (show IsS115 w _ g632 t629 t640 t641 from zI1 HI632.1 NB632_628.1)):g632≠gb645)) ((zg hg (IsS115.lt (show IsS115 w _ g632 t629 t640 t641 from zI1 HI632.1 NB632_628.1)):gb645≠g632)) ?_;clear HO644 BK628 HI632 HB;intro HO644 BK628 HI632 HB BK645 GW645 GE645 NB628_645 NB645_628 NB632_645 NB645_632;clear hb hbox hg;have hnb12:=NB645_628.1;have hnc12:=NB628_645.1;have hnb13:=NB645_632.1;have hnc13:=NB632_645.1;obtain ⟨Z14_0,Z14_1,Z14_2,Z14_3⟩:=zc4 BK645;obtain ⟨V14_0,V14_1,V14_2,V14_3⟩:=zf4 BK645))
 go_loopg [6,8] k (fun kq v6 v8 w'=>∃ (x6_1:List Int) (x8_1:Int),v8=.int .i64 x8_1∧Aside0 (spec_DrawIsMatching.l0 kq x6_1 (wrap64 (Int.tdiv t636 2)) x8_1 t629 t640 t641 t636 t637 t638 t639=some (r1,r2,r3,r4,r5))∧Aside0 (kq≤k)∧Aside0 (Kd.R (Kd.int .i64) 2 w' w.heap.size (fun _=>True) v6 x6_1)∧Aside0 (w'.heap[gb628]?=some (.cells #[.int .i64 0,.int .i64 0,.int .i64 0,.int .i64 0] 25 (0,0)))∧Aside0 (w'.heap[gb645]?=some (.cells #[.int .i64 t636,.int .i64 t637,.int .i64 t638,.int .i64 t639] 25 (0,0)))∧Aside0 (IsS115 w w' g632 t629 t640 t641)∧Aside0 (Below w.heap.size w w'))
 case atStart=>exact ⟨(y642),(0),(zF),H',⟨Nat.le_refl _⟩,⟨zRm (Kd.R_far (p:=⟨gb645,3,none⟩) (Kd.R_far (p:=⟨gb645,2,none⟩) (Kd.R_far (p:=⟨gb645,1,none⟩) (Kd.R_far (p:=⟨gb645,0,none⟩) (Kd.R_types HO644.1 BK645.1 (by decide)) (fun _ hk=>hk.2) (.int .i64 t636)) (fun _ hk=>hk.2) (.int .i64 t637)) (fun _ hk=>hk.2) (.int .i64 t638)) (fun _ hk=>hk.2) (.int .i64 t639)) (fun _ hk=>trivial)⟩,⟨zQ1 BK628.1 NB628_645.1⟩,⟨zQ BK645.1⟩,⟨zI2 HI632.1 NB632_628.1 NB632_645.1⟩,⟨zH3 HB.1 (IsS115.ge HI632.1) GE628.1 GE645.1⟩⟩
 case round=>
  clear H'
  try clear c1
  try clear c2
  try clear p2
  try clear c4
  try clear p6
  try clear c12
  try clear c13
  try clear Z14_0 Z14_1 Z14_2 Z14_3 V14_0 V14_1 V14_2 V14_3
  obtain ⟨x6_1,x8_1,rfl,HA,HK1,HO_6,BK628,BK645,HI632,HB⟩:=hrel
  cases gk with
  |zero=>exact absurd HA.1 (by simp [spec_DrawIsMatching.l0])
  |succ k1=>
   have H:=HA.1
   clear HA
   simp only [spec_DrawIsMatching.l0] at H
   by_cases c15:x8_1<t636
   ·rw [if_pos c15] at H
    have c15b0:=decide_eq_true c15
    clear c15
    by_cases c16:t636=0
    ·rw [if_pos c16] at H
     exact absurd H (by simp)
    ·rw [if_neg c16] at H
     have c16b0:=zq3 c16
     have c16b1:=zq4 c16
     by_cases c17:x6_1.length<17592186044416
     ·rw [if_pos c17] at H
      have LMc17:=Aside0.mk c17
      clear c17
      obtain ⟨y646,hy646⟩:∃ y_:List Int,y_=(x6_1++[Int.tmod (wrap64 (x8_1+(wrap64 (Int.tdiv t636 2)))) t636]):=⟨_,rfl⟩
      replace H:(spec_DrawIsMatching.l0 k1 y646 (wrap64 (Int.tdiv t636 2)) (wrap64 (x8_1+1)) t629 t640 t641 t636 t637 t638 t639)=some (r1,r2,r3,r4,r5):=by first|(rw [hy646];with_reducible exact H)|(have H2_:=(Option.bind_some _ _).symm.trans H;rw [hy646];with_reducible exact H2_)|(have H2_:=(Option.bind_some _ _).symm.trans H;with_reducible exact H2_)|with_reducible exact H|(rw [hy646];exact H)|exact H
      have Ny646:=Aside0.mk hy646
      clear hy646
      have H':=Aside0.mk H
      clear H
      have hnb18:=NB645_628.1
      have hnc18:=NB628_645.1
      have hnb19:=NB645_632.1
      have hnc19:=NB632_645.1
      obtain ⟨Z20_0,Z20_1,Z20_2,Z20_3⟩:=zc4 BK645
      obtain ⟨V20_0,V20_1,V20_2,V20_3⟩:=zf4 BK645
      go_wp2_with (first|((with_reducible refine gate_builtin (b:=.append) (xs:=#[.tmp 26,.tmp 33]) rfl ?_);at_builtin;refine Kd.R_append (Kd.int .i64) (w0:=w) w.heap.size rfl (.tmp 26) (.tmp 33) 28 2 (.int .i64 0) 8 rfl Tryz.underlying28 info2 rfl (by decide) (by omega) u6 x6_1 (Int.tmod (wrap64 (x8_1+(wrap64 (Int.tdiv t636 2)))) t636) [.int .i64 (Int.tmod (wrap64 (x8_1+(wrap64 (Int.tdiv t636 2)))) t636)] (fun _=>True) (fun _=>False) rfl rfl ?aP (fun _ hk=>hk.elim) ?aF ?aO ?aB ?aS ?aL ?_;(case aP=>exact rfl);(case aB=>exact (zH3 HB.1 (IsS115.ge HI632.1) GE628.1 GE645.1));(case aF=>exact (fun _ _=>trivial));(case aO=>exact (zR HO_6.1));(case aS=>exact (below_size (zH3 HB.1 (IsS115.ge HI632.1) GE628.1 GE645.1)));(case aL=>have:=LMc17.1;omega);intro v647 w21 ho hb hg hat;rw [← Ny646.1] at ho;refine zA5 (blk_grown (g:=gb628) (o:=.cells #[.int .i64 0,.int .i64 0,.int .i64 0,.int .i64 0] 25 (0,0)) (zB BK628.1) hg (Kd.R_ne HO_6.1 BK628.1 (by decide))) (blk_grown (g:=gb645) (o:=.cells #[.int .i64 t636,.int .i64 t637,.int .i64 t638,.int .i64 t639] 25 (0,0)) (zB BK645.1) hg (Kd.R_ne HO_6.1 BK645.1 (by decide))) (IsS115.grown (zI2 HI632.1 NB632_628.1 NB632_645.1) hg (IsS115.own_ne HI632.1 HO_6.1 (by decide))) (hb) (ho) ?_;clear BK628 BK645 HI632 HB HO_6;intro BK628 BK645 HI632 HB HO648;clear ho hb hg hat))
      go_roundg k1
      case measure=>have:=HK1.1;omega
      case rel=>exact ⟨(y646),(wrap64 (x8_1+1)),(zF),H',⟨by have:=HK1.1;omega⟩,⟨zR HO648.1⟩,⟨zB BK628.1⟩,⟨zB BK645.1⟩,⟨zI2 HI632.1 NB632_628.1 NB632_645.1⟩,⟨zH3 HB.1 (IsS115.ge HI632.1) GE628.1 GE645.1⟩⟩
     ·rw [if_neg c17] at H
      exact absurd H (by simp)
   ·rw [if_neg c15] at H
    have c15b0:=decide_eq_false c15
    clear c15
    obtain ⟨⟨t649,t650,t651⟩,A22,H⟩:=zb H;(try dsimp only at H)
    by_cases c23:t649=0
    ·rw [if_pos c23] at H
     have c23b0:=zq1 c23
     have c23b1:=zq2 c23
     clear c23
     by_cases c24:x6_1.length<17592186044416
     ·rw [if_pos c24] at H
      have LMc24:=Aside0.mk c24
      clear c24
      obtain ⟨y652,hy652⟩:∃ y_:List Int,y_=(x6_1++[0]):=⟨_,rfl⟩
      replace H:((spec_l05Bad.f t629 t650 t651 t636 t637 t638 t639).bind fun bt655=>(some (bt655.1,bt655.2.1,bt655.2.2.1,bt655.2.2.2.1,y652)))=some (r1,r2,r3,r4,r5):=by first|(rw [hy652];with_reducible exact H)|(have H2_:=(Option.bind_some _ _).symm.trans H;rw [hy652];with_reducible exact H2_)|(have H2_:=(Option.bind_some _ _).symm.trans H;with_reducible exact H2_)|with_reducible exact H|(rw [hy652];exact H)|exact H
      have Ny652:=Aside0.mk hy652
      clear hy652
      obtain ⟨⟨t655,t656,t657,t658,t659,t660⟩,A25,H⟩:=zb H;(try dsimp only at H)
      simp only [Option.some.injEq,Prod.mk.injEq] at H
      obtain ⟨rfl,rfl,rfl,rfl,rfl⟩:=H
      have hnb26:=NB645_628.1
      have hnc26:=NB628_645.1
      have hnb27:=NB645_632.1
      have hnc27:=NB632_645.1
      obtain ⟨Z28_0,Z28_1,Z28_2,Z28_3⟩:=zc4 BK645
      obtain ⟨V28_0,V28_1,V28_2,V28_3⟩:=zf4 BK645
      go_wp2_with (first|((with_reducible refine gate_callee (f:=42) rfl ?_);refine zL (some 36) Tryz.func42 #[.pointer (some ⟨g632,0,none⟩),.int .i64 8] ?_;(with_reducible refine (spec_l01Next.calls g632 t629 t640 t641 8 t649 t650 t651 w _ ?side1 ?side2 A22.1).mono ?_);(case side1=>exact zI2 HI632.1 NB632_628.1 NB632_645.1);(case side2=>exact zH3 HB.1 (IsS115.ge HI632.1) GE628.1 GE645.1);rintro e w29 ⟨rfl,hi,hb,hk⟩;refine ⟨_,rfl,?_⟩;refine zA5 (Kd.R_mono (Kd.R_keep (IsS115.apart (show IsS115 w _ g632 t629 t640 t641 from zI2 HI632.1 NB632_628.1 NB632_645.1) (zR HO_6.1) (by decide)) hk (fun _ h=>h.2)) (fun _ h=>h.1)) (zYk hk BK628.1 NB628_632.1) (zYk hk BK645.1 NB645_632.1) (hb) (hi) ?_;clear HO_6 BK628 BK645 HB HI632;intro HO_6 BK628 BK645 HB HI632;(try clear hb);(try clear hk);(try clear hi))|((with_reducible refine gate_builtin (b:=.append) (xs:=#[.tmp 39,.tmp 40]) rfl ?_);at_builtin;refine Kd.R_append (Kd.int .i64) (w0:=w) w.heap.size rfl (.tmp 39) (.tmp 40) 28 2 (.int .i64 0) 8 rfl Tryz.underlying28 info2 rfl (by decide) (by omega) u6 x6_1 0 [.int .i64 0] (fun _=>True) (fun _=>False) rfl rfl ?aP (fun _ hk=>hk.elim) ?aF ?aO ?aB ?aS ?aL ?_;(case aP=>exact rfl);(case aB=>exact (zH3 HB.1 (IsS115.ge HI632.1) GE628.1 GE645.1));(case aF=>exact (fun _ _=>trivial));(case aO=>exact (zR HO_6.1));(case aS=>exact (below_size (zH3 HB.1 (IsS115.ge HI632.1) GE628.1 GE645.1)));(case aL=>have:=LMc24.1;omega);intro v653 w30 ho hb hg hat;rw [← Ny652.1] at ho;refine zA5 (blk_grown (g:=gb628) (o:=.cells #[.int .i64 0,.int .i64 0,.int .i64 0,.int .i64 0] 25 (0,0)) (zB BK628.1) hg (Kd.R_ne HO_6.1 BK628.1 (by decide))) (blk_grown (g:=gb645) (o:=.cells #[.int .i64 t636,.int .i64 t637,.int .i64 t638,.int .i64 t639] 25 (0,0)) (zB BK645.1) hg (Kd.R_ne HO_6.1 BK645.1 (by decide))) (IsS115.grown (zI2 HI632.1 NB632_628.1 NB632_645.1) hg (IsS115.own_ne HI632.1 HO_6.1 (by decide))) (hb) (ho) ?_;clear BK628 BK645 HI632 HB HO_6;intro BK628 BK645 HI632 HB HO654;clear ho hb hg hat;obtain ⟨Z31_0,Z31_1,Z31_2,Z31_3⟩:=zc4 BK645;obtain ⟨V31_0,V31_1,V31_2,V31_3⟩:=zf4 BK645)|((with_reducible refine gate_callee (f:=43) rfl ?_);refine zL (some 72) Tryz.func43 #[.pointer (some ⟨g632,0,none⟩),.agg #[.int .i64 t636,.int .i64 t637,.int .i64 t638,.int .i64 t639]] ?_;(with_reducible refine (spec_l05Bad.calls g632 t629 t650 t651 t636 t637 t638 t639 t655 t656 t657 t658 t659 t660 w _ ?side1 ?side2 A25.1).mono ?_);(case side1=>exact zI2 HI632.1 NB632_628.1 NB632_645.1);(case side2=>exact zH3 HB.1 (IsS115.ge HI632.1) GE628.1 GE645.1);rintro e w32 ⟨rfl,hi,hb,hk⟩;refine ⟨_,rfl,?_⟩;refine zA5 (zYk hk BK628.1 NB628_632.1) (zYk hk BK645.1 NB645_632.1) (Kd.R_mono (Kd.R_keep (IsS115.apart (show IsS115 w _ g632 t629 t650 t651 from zI2 HI632.1 NB632_628.1 NB632_645.1) (zR HO654.1) (by decide)) hk (fun _ h=>h.2)) (fun _ h=>h.1)) (hb) (hi) ?_;clear BK628 BK645 HO654 HB HI632;intro BK628 BK645 HO654 HB HI632;(try clear hb);(try clear hk);(try clear hi);have hnb33:=NB628_632.1;have hnc33:=NB632_628.1;obtain ⟨Z34_0,Z34_1,Z34_2,Z34_3⟩:=zc4 BK628;obtain ⟨V34_0,V34_1,V34_2,V34_3⟩:=zf4 BK628))
      refine bodyPost_ret (results_ct rfl _ _ gb628 25 #[.int .i64 t655,.int .i64 t656,.int .i64 t657,.int .i64 t658] (0,0) _ rfl (zQ BK628.1) Tryz.underlying25 rfl (by kernel_rfl)) rfl ?_
      exact ⟨_,zE,by (with_reducible repeat (first|apply Kd.R_alloc|apply Kd.R_drewN|apply Kd.R_drew));exact Kd.R_mono (Kd.R_far (p:=⟨gb628,3,none⟩) (Kd.R_far (p:=⟨gb628,2,none⟩) (Kd.R_far (p:=⟨gb628,1,none⟩) (Kd.R_far (p:=⟨gb628,0,none⟩) (Kd.R_types HO654.1 BK628.1 (by decide)) (fun _ hk=>hk.2) (.int .i64 t655)) (fun _ hk=>hk.2) (.int .i64 t656)) (fun _ hk=>hk.2) (.int .i64 t657)) (fun _ hk=>hk.2) (.int .i64 t658)) (fun _ hk=>trivial),zH3 HB.1 (IsS115.ge HI632.1) GE628.1 GE645.1⟩
     ·rw [if_neg c24] at H
      exact absurd H (by simp)
    ·rw [if_neg c23] at H
     have c23b0:=zq3 c23
     have c23b1:=zq4 c23
     by_cases c35:t649=1
     ·rw [if_pos c35] at H
      have c35b0:=zq1 c35
      have c35b1:=zq2 c35
      clear c35
      obtain ⟨y661,hy661⟩:∃ y_:List Int,y_=(([(-1),t636,0]:List Int)):=⟨_,rfl⟩
      replace H:((spec_l01Pick.f t629 t650 t651 y661).bind fun bt664=>(if 0<(x6_1.length:Int) then ((spec_l05Bad.f t629 bt664.2.1 bt664.2.2 t636 t637 t638 t639).bind fun bt668=>(some (bt668.1,bt668.2.1,bt668.2.2.1,bt668.2.2.2.1,(x6_1.set (0:Int).toNat bt664.1)))) else (none)))=some (r1,r2,r3,r4,r5):=by first|(rw [hy661];with_reducible exact H)|(have H2_:=(Option.bind_some _ _).symm.trans H;rw [hy661];with_reducible exact H2_)|(have H2_:=(Option.bind_some _ _).symm.trans H;with_reducible exact H2_)|with_reducible exact H|(rw [hy661];exact H)|exact H
      have Ny661:=Aside0.mk hy661
      clear hy661
      obtain ⟨⟨t664,t665,t666⟩,A36,H⟩:=zb H;(try dsimp only at H)
      by_cases c37:0<(x6_1.length:Int)
      ·rw [if_pos c37] at H
       have c37b0:=decide_eq_true c37
       have c37b1:decide (0<x6_1.length)=true:=decide_eq_true (by omega)
       clear c37
       obtain ⟨y667,hy667⟩:∃ y_:List Int,y_=(x6_1.set (0:Int).toNat t664):=⟨_,rfl⟩
       replace H:((spec_l05Bad.f t629 t665 t666 t636 t637 t638 t639).bind fun bt668=>(some (bt668.1,bt668.2.1,bt668.2.2.1,bt668.2.2.2.1,y667)))=some (r1,r2,r3,r4,r5):=by first|(rw [hy667];with_reducible exact H)|(have H2_:=(Option.bind_some _ _).symm.trans H;rw [hy667];with_reducible exact H2_)|(have H2_:=(Option.bind_some _ _).symm.trans H;with_reducible exact H2_)|with_reducible exact H|(rw [hy667];exact H)|exact H
       have Ny667:=Aside0.mk hy667
       clear hy667
       obtain ⟨⟨t668,t669,t670,t671,t672,t673⟩,A39,H⟩:=zb H;(try dsimp only at H)
       simp only [Option.some.injEq,Prod.mk.injEq] at H
       obtain ⟨rfl,rfl,rfl,rfl,rfl⟩:=H
       have hnb40:=NB645_628.1
       have hnc40:=NB628_645.1
       have hnb41:=NB645_632.1
       have hnc41:=NB632_645.1
       obtain ⟨Z42_0,Z42_1,Z42_2,Z42_3⟩:=zc4 BK645
       obtain ⟨V42_0,V42_1,V42_2,V42_3⟩:=zf4 BK645
       go_wp2_with (first|((with_reducible refine gate_callee (f:=42) rfl ?_);refine zL (some 36) Tryz.func42 #[.pointer (some ⟨g632,0,none⟩),.int .i64 8] ?_;(with_reducible refine (spec_l01Next.calls g632 t629 t640 t641 8 t649 t650 t651 w _ ?side1 ?side2 A22.1).mono ?_);(case side1=>exact zI2 HI632.1 NB632_628.1 NB632_645.1);(case side2=>exact zH3 HB.1 (IsS115.ge HI632.1) GE628.1 GE645.1);rintro e w43 ⟨rfl,hi,hb,hk⟩;refine ⟨_,rfl,?_⟩;refine zA5 (Kd.R_mono (Kd.R_keep (IsS115.apart (show IsS115 w _ g632 t629 t640 t641 from zI2 HI632.1 NB632_628.1 NB632_645.1) (zR HO_6.1) (by decide)) hk (fun _ h=>h.2)) (fun _ h=>h.1)) (zYk hk BK628.1 NB628_632.1) (zYk hk BK645.1 NB645_632.1) (hb) (hi) ?_;clear HO_6 BK628 BK645 HB HI632;intro HO_6 BK628 BK645 HB HI632;(try clear hb);(try clear hk);(try clear hi);obtain ⟨Z44_0,Z44_1,Z44_2,Z44_3⟩:=zc4 BK645;obtain ⟨V44_0,V44_1,V44_2,V44_3⟩:=zf4 BK645)|((with_reducible refine gate_dst (N:=48) rfl ?_);refine Kd.R_lit (Kd.int .i64) _ 2 ?hg (N:=48) ?hd (xs:=([(-1),t636,0]:List Int)) (inner:=[.int .i64 (-1),.int .i64 t636,.int .i64 0]) (ok:=fun _=>True) (okp:=fun _=>True) ?hr ?hp (fun _ hk=>hk) trivial (Below.refl _ _) (Nat.le_refl _) (by simp) ?_;(case hd=>rfl);(case hg=>rfl);(case hr=>first|(go_simp;done)|(go_simp;rfl));(case hp=>exact (Reps.one (show Kd.M (Kd.int .i64) _ _ _ (-1) [.int .i64 (-1)] from rfl) (Reps.one (show Kd.M (Kd.int .i64) _ _ _ t636 [.int .i64 t636] from rfl) (Reps.one (show Kd.M (Kd.int .i64) _ _ _ 0 [.int .i64 0] from rfl) (Reps.none _ _)))));intro v662 w45 ho46 hb hg_ hnew_;clear hg_ hnew_;(first|rw [← Ny661.1] at ho46|(simp only [Int.reduceToNat] at ho46;rw [← Ny661.1] at ho46));refine zA6 (Kd.R_elder' (zR HO_6.1) (Kd.R_base ho46) hb) (Kd.R_lower (Kd.R_new' ho46 (Kd.R_lt (zR HO_6.1))) (below_size (zH3 HB.1 (IsS115.ge HI632.1) GE628.1 GE645.1))) (zY BK628.1 hb) (zY BK645.1 hb) (IsS115.below (zI2 HI632.1 NB632_628.1 NB632_645.1) hb) (below_step (zH3 HB.1 (IsS115.ge HI632.1) GE628.1 GE645.1) hb) ?_;clear HO_6 BK628 BK645 HI632 HB;intro HO_6 HO663 BK628 BK645 HI632 HB;clear hb ho46;obtain ⟨Ao47,co47,eo47⟩:=Kd.R_slice HO663.1;subst eo47)|((with_reducible refine gate_callee (f:=60) rfl ?_);refine zL (some 49) Tryz.func60 #[.pointer (some ⟨g632,0,none⟩),.slice Ao47 y661.length co47] ?_;(with_reducible refine (spec_l01Pick.calls g632 t629 t650 t651 _ _ y661 t664 t665 t666 w _ ?side1 ?side2 ?side3 ?side4 ?side5 A36.1).mono ?_);(case side1=>exact zI2 HI632.1 NB632_628.1 NB632_645.1);(case side2=>exact zH3 HB.1 (IsS115.ge HI632.1) GE628.1 GE645.1);(case side3=>repeat (first|exact (Kd.R_reads' HO663.1).2.2|(with_reducible refine Kd.C_alloc ?_ _)|(with_reducible refine Kd.C_drewN ?_ _)|(with_reducible refine Kd.C_drew ?_)));(case side4=>exact (Kd.R_reads' HO663.1).2.1);(case side5=>exact far_slice (IsS115.own_ne HI632.1 HO663.1 (by decide)));rintro e w48 ⟨rfl,hi,hb,hk⟩;refine ⟨_,rfl,?_⟩;refine zA6 (Kd.R_mono (Kd.R_keep (IsS115.apart (show IsS115 w _ g632 t629 t650 t651 from zI2 HI632.1 NB632_628.1 NB632_645.1) (zR HO_6.1) (by decide)) hk (fun _ h=>h.2)) (fun _ h=>h.1)) (zYk hk BK628.1 NB628_632.1) (zYk hk BK645.1 NB645_632.1) (Kd.R_mono (Kd.R_keep (IsS115.apart (show IsS115 w _ g632 t629 t650 t651 from zI2 HI632.1 NB632_628.1 NB632_645.1) (zR HO663.1) (by decide)) hk (fun _ h=>h.2)) (fun _ h=>h.1)) (hb) (hi) ?_;clear HO_6 BK628 BK645 HO663 HB HI632;intro HO_6 BK628 BK645 HO663 HB HI632;(try clear hb);(try clear hk);(try clear hi);have p38:0≤(0:Int):=(by omega);have q38:(0:Int)<((x6_1.length:Int):Int):=zo;have qi38:(0<x6_1.length)=True:=eq_true (by omega);obtain ⟨go38,co38,eo38,gb38,gl38,cl38,HG38⟩:=Kd.R_form HO_6.1 (by omega);(first|cases eo38|(injection eo38 with ea_ en_ ec_;(first|subst ea_|(injection ea_ with ea_;subst ea_));subst ec_;clear en_));have GB38:=Aside0.mk gb38;have GG38:=Aside0.mk HG38;clear gb38 gl38 HG38;obtain ⟨hx38_0,hf38_0⟩:=Kd.R_celln 0 HO_6.1 (0:Int) p38 q38;(try rw [show ((0:Int)).toNat=0 from rfl] at hx38_0);(try simp only [Nat.reduceMul,Nat.zero_mul,Nat.zero_add,Nat.reduceAdd] at hx38_0);(try rw [show ((0:Int)).toNat=0 from rfl] at hf38_0);(try simp only [Nat.reduceMul,Nat.zero_mul,Nat.zero_add,Nat.reduceAdd] at hf38_0);replace p38:=eq_true p38;replace q38:=eq_true q38;have n_:=Aside0.mk (Kd.R_mono (ok':=(fun k_=>some k_≠(.slice Ao47 y661.length co47:Value).ownBlock)) HO_6.1 (fun k_ hk=>hk.2));clear HO_6;have HO_6:=n_;clear n_;obtain ⟨hy49_,hz49_⟩:=Kd.R_celln 0 HO_6.1 (0:Int) (by omega) zo;(try simp only [Int.reduceToNat,Int.toNat_zero,Int.toNat_ofNat,Nat.reduceMul,Nat.zero_mul,Nat.zero_add] at hy49_ hz49_);(try rw [show ((0:Int)).toNat=0 from rfl] at hy49_);(try rw [show ((0:Int)).toNat=0 from rfl] at hz49_);have HP49:=Kd.R_putg HO_6.1 (0:Int) t664)|((with_reducible refine gate_store (t:=2) (p:=50) rfl ?_);refine store_event (t:=2) (p:=50) (v:=?vo_w50) (w1:=(w48.setCell ⟨go38,(0:Int).toNat,none⟩ (.int .i64 t664))) ?hg ?ho ?hn ?hr ?_;(case ho=>rfl);(case hg=>rfl);(case hn=>rfl);(case hr=>first|(go_simp;done)|(go_simp;rfl));intro w50 hw;have hg:w48.grownBy w50 (some go38):=(by rw [hw];exact HP49.2);have hp_:Kd.R (Kd.int .i64) 2 w50 w.heap.size (fun k_=>some k_≠(.slice Ao47 y661.length co47:Value).ownBlock) (.slice (some ⟨go38,0,none⟩) x6_1.length co38) y667:=(by rw [hw,Ny667.1];exact HP49.1);clear HP49;refine zA6 (hp_) (blk_grown (g:=gb628) (o:=.cells #[.int .i64 0,.int .i64 0,.int .i64 0,.int .i64 0] 25 (0,0)) (zB BK628.1) hg (Kd.R_ne HO_6.1 BK628.1 (by decide))) (blk_grown (g:=gb645) (o:=.cells #[.int .i64 t636,.int .i64 t637,.int .i64 t638,.int .i64 t639] 25 (0,0)) (zB BK645.1) hg (Kd.R_ne HO_6.1 BK645.1 (by decide))) (IsS115.grown (zI2 HI632.1 NB632_628.1 NB632_645.1) hg (IsS115.own_ne HI632.1 HO_6.1 (by decide))) (Kd.R_after (v:=(.slice (some ⟨go38,0,none⟩) x6_1.length co38)) (v1:=(.slice (some ⟨go38,0,none⟩) x6_1.length co38)) (ok:=(fun _=>True)) (zR HO663.1) hg (.inl rfl)) ((by rw [hw];exact below_set (HB.1) GB38.1:Below w.heap.size w w50)) ?_;clear HO_6 BK628 BK645 HI632 HO663 HB;intro HO_6 BK628 BK645 HI632 HO663 HB;clear hg hw hp_;obtain ⟨Z51_0,Z51_1,Z51_2,Z51_3⟩:=zc4 BK645;obtain ⟨V51_0,V51_1,V51_2,V51_3⟩:=zf4 BK645)|((with_reducible refine gate_callee (f:=43) rfl ?_);refine zL (some 72) Tryz.func43 #[.pointer (some ⟨g632,0,none⟩),.agg #[.int .i64 t636,.int .i64 t637,.int .i64 t638,.int .i64 t639]] ?_;(with_reducible refine (spec_l05Bad.calls g632 t629 t665 t666 t636 t637 t638 t639 t668 t669 t670 t671 t672 t673 w _ ?side1 ?side2 A39.1).mono ?_);(case side1=>exact zI2 HI632.1 NB632_628.1 NB632_645.1);(case side2=>exact zH3 HB.1 (IsS115.ge HI632.1) GE628.1 GE645.1);rintro e w52 ⟨rfl,hi,hb,hk⟩;refine ⟨_,rfl,?_⟩;refine zA6 (Kd.R_mono (Kd.R_keep (IsS115.apart (show IsS115 w _ g632 t629 t665 t666 from zI2 HI632.1 NB632_628.1 NB632_645.1) (zR HO_6.1) (by decide)) hk (fun _ h=>h.2)) (fun _ h=>h.1)) (zYk hk BK628.1 NB628_632.1) (zYk hk BK645.1 NB645_632.1) (Kd.R_mono (Kd.R_keep (IsS115.apart (show IsS115 w _ g632 t629 t665 t666 from zI2 HI632.1 NB632_628.1 NB632_645.1) (zR HO663.1) (by decide)) hk (fun _ h=>h.2)) (fun _ h=>h.1)) (hb) (hi) ?_;clear HO_6 BK628 BK645 HO663 HB HI632;intro HO_6 BK628 BK645 HO663 HB HI632;(try clear hb);(try clear hk);(try clear hi);have hnb53:=NB628_632.1;have hnc53:=NB632_628.1;obtain ⟨Z54_0,Z54_1,Z54_2,Z54_3⟩:=zc4 BK628;obtain ⟨V54_0,V54_1,V54_2,V54_3⟩:=zf4 BK628))
       refine bodyPost_ret (results_ct rfl _ _ gb628 25 #[.int .i64 t668,.int .i64 t669,.int .i64 t670,.int .i64 t671] (0,0) _ rfl (zQ BK628.1) Tryz.underlying25 rfl (by kernel_rfl)) rfl ?_
       exact ⟨_,zE,by (with_reducible repeat (first|apply Kd.R_alloc|apply Kd.R_drewN|apply Kd.R_drew));exact Kd.R_mono (Kd.R_far (p:=⟨gb628,3,none⟩) (Kd.R_far (p:=⟨gb628,2,none⟩) (Kd.R_far (p:=⟨gb628,1,none⟩) (Kd.R_far (p:=⟨gb628,0,none⟩) (Kd.R_types HO_6.1 BK628.1 (by decide)) (fun _ hk=>hk.2) (.int .i64 t668)) (fun _ hk=>hk.2) (.int .i64 t669)) (fun _ hk=>hk.2) (.int .i64 t670)) (fun _ hk=>hk.2) (.int .i64 t671)) (fun _ hk=>trivial),zH3 HB.1 (IsS115.ge HI632.1) GE628.1 GE645.1⟩
      ·rw [if_neg c37] at H
       exact absurd H (by simp)
     ·rw [if_neg c35] at H
      have c35b0:=zq3 c35
      have c35b1:=zq4 c35
      by_cases c55:t649=2
      ·rw [if_pos c55] at H
       have c55b0:=zq1 c55
       have c55b1:=zq2 c55
       clear c55
       by_cases c56:0<(x6_1.length:Int)
       ·rw [if_pos c56] at H
        have c56b0:=decide_eq_true c56
        have c56b1:decide (0<x6_1.length)=true:=decide_eq_true (by omega)
        clear c56
        obtain ⟨ji57,hji57⟩:=zj (wrap64 ((x6_1.length:Int)-1))
        (first|rw [hji57] at H|simp only [hji57] at H)
        (try rw [hji57] at A22)
        have hji57w:(IntKind.i64.wrap ((x6_1.length:Int)-1))=ji57:=(i64_w _).trans hji57
        by_cases c58:0≤(ji57)
        ·rw [if_pos c58] at H
         have c58b0:=decide_eq_true c58
         clear c58
         by_cases c59:(ji57)<(x6_1.length:Int)
         ·rw [if_pos c59] at H
          have c59b0:=decide_eq_true c59
          clear c59
          obtain ⟨y676,hy676⟩:∃ y_:List Int,y_=(x6_1.set (0:Int).toNat (rd x6_1 (ji57))):=⟨_,rfl⟩
          replace H:((spec_l05Bad.f t629 t650 t651 t636 t637 t638 t639).bind fun bt678=>(some (bt678.1,bt678.2.1,bt678.2.2.1,bt678.2.2.2.1,(y676.set ((ji57):Int).toNat (rd x6_1 0)))))=some (r1,r2,r3,r4,r5):=by first|(rw [hy676];with_reducible exact H)|(have H2_:=(Option.bind_some _ _).symm.trans H;rw [hy676];with_reducible exact H2_)|(have H2_:=(Option.bind_some _ _).symm.trans H;with_reducible exact H2_)|with_reducible exact H|(rw [hy676];exact H)|exact H
          have Ny676:=Aside0.mk hy676
          clear hy676
          obtain ⟨y677,hy677⟩:∃ y_:List Int,y_=(y676.set ((ji57):Int).toNat (rd x6_1 0)):=⟨_,rfl⟩
          replace H:((spec_l05Bad.f t629 t650 t651 t636 t637 t638 t639).bind fun bt678=>(some (bt678.1,bt678.2.1,bt678.2.2.1,bt678.2.2.2.1,y677)))=some (r1,r2,r3,r4,r5):=by first|(rw [hy677];with_reducible exact H)|(have H2_:=(Option.bind_some _ _).symm.trans H;rw [hy677];with_reducible exact H2_)|(have H2_:=(Option.bind_some _ _).symm.trans H;with_reducible exact H2_)|with_reducible exact H|(rw [hy677];exact H)|exact H
          have Ny677:=Aside0.mk hy677
          clear hy677
          obtain ⟨⟨t678,t679,t680,t681,t682,t683⟩,A62,H⟩:=zb H;(try dsimp only at H)
          simp only [Option.some.injEq,Prod.mk.injEq] at H
          obtain ⟨rfl,rfl,rfl,rfl,rfl⟩:=H
          have hnb63:=NB645_628.1
          have hnc63:=NB628_645.1
          have hnb64:=NB645_632.1
          have hnc64:=NB632_645.1
          obtain ⟨Z65_0,Z65_1,Z65_2,Z65_3⟩:=zc4 BK645
          obtain ⟨V65_0,V65_1,V65_2,V65_3⟩:=zf4 BK645
          go_wp2_with (first|((with_reducible refine gate_callee (f:=42) rfl ?_);refine zL (some 36) Tryz.func42 #[.pointer (some ⟨g632,0,none⟩),.int .i64 8] ?_;(with_reducible refine (spec_l01Next.calls g632 t629 t640 t641 8 t649 t650 t651 w _ ?side1 ?side2 A22.1).mono ?_);(case side1=>exact zI2 HI632.1 NB632_628.1 NB632_645.1);(case side2=>exact zH3 HB.1 (IsS115.ge HI632.1) GE628.1 GE645.1);rintro e w66 ⟨rfl,hi,hb,hk⟩;refine ⟨_,rfl,?_⟩;refine zA5 (Kd.R_mono (Kd.R_keep (IsS115.apart (show IsS115 w _ g632 t629 t640 t641 from zI2 HI632.1 NB632_628.1 NB632_645.1) (zR HO_6.1) (by decide)) hk (fun _ h=>h.2)) (fun _ h=>h.1)) (zYk hk BK628.1 NB628_632.1) (zYk hk BK645.1 NB645_632.1) (hb) (hi) ?_;clear HO_6 BK628 BK645 HB HI632;intro HO_6 BK628 BK645 HB HI632;(try clear hb);(try clear hk);(try clear hi);obtain ⟨Ao67,co67,eo67⟩:=Kd.R_slice HO_6.1;subst eo67;have p674:0≤(0:Int):=(by omega);have q674:0<(x6_1.length:Int):=zo;obtain ⟨ad674,e674,hx674_0⟩:=Kd.at_int (Kd.R_reads' HO_6.1).2.2 0 p674 q674;cases e674;have qi674:(0<x6_1.length)=True:=eq_true (by omega);(try rw [show ((0:Int)).toNat=0 from rfl] at hx674_0);(try rw [Addr.add_zero'] at hx674_0);replace p674:=eq_true p674;replace q674:=eq_true q674;have p675:0≤((ji57):Int):=zo;have q675:(ji57)<(x6_1.length:Int):=zo;obtain ⟨ad675,e675,hx675_0⟩:=Kd.at_int (Kd.R_reads' HO_6.1).2.2 (ji57) p675 q675;obtain rfl:ad674=ad675:=(by injection e675);replace p675:=eq_true p675;replace q675:=eq_true q675;have p60:0≤(0:Int):=(by omega);have q60:(0:Int)<((x6_1.length:Int):Int):=zo;have qi60:(0<x6_1.length)=True:=eq_true (by omega);obtain ⟨go60,co60,eo60,gb60,gl60,cl60,HG60⟩:=Kd.R_form HO_6.1 (by omega);(first|cases eo60|(injection eo60 with ea_ en_ ec_;(first|subst ea_|(injection ea_ with ea_;subst ea_));subst ec_;clear en_));have GB60:=Aside0.mk gb60;have GG60:=Aside0.mk HG60;clear gb60 gl60 HG60;(first|simp only [add_plain] at hx674_0|skip);(first|simp only [add_plain] at hx675_0|skip);obtain ⟨hx60_0,hf60_0⟩:=Kd.R_celln 0 HO_6.1 (0:Int) p60 q60;(try rw [show ((0:Int)).toNat=0 from rfl] at hx60_0);(try simp only [Nat.reduceMul,Nat.zero_mul,Nat.zero_add,Nat.reduceAdd] at hx60_0);(try rw [show ((0:Int)).toNat=0 from rfl] at hf60_0);(try simp only [Nat.reduceMul,Nat.zero_mul,Nat.zero_add,Nat.reduceAdd] at hf60_0);replace p60:=eq_true p60;replace q60:=eq_true q60;obtain ⟨hy68_,hz68_⟩:=Kd.R_celln 0 HO_6.1 (0:Int) (by omega) zo;(try simp only [Int.reduceToNat,Int.toNat_zero,Int.toNat_ofNat,Nat.reduceMul,Nat.zero_mul,Nat.zero_add] at hy68_ hz68_);(try rw [show ((0:Int)).toNat=0 from rfl] at hy68_);(try rw [show ((0:Int)).toNat=0 from rfl] at hz68_);have HP68:=Kd.R_putg HO_6.1 (0:Int) (rd x6_1 (ji57)))|((with_reducible refine gate_store (t:=2) (p:=63) rfl ?_);refine store_event (t:=2) (p:=63) (v:=?vo_w69) (w1:=(w66.setCell ⟨go60,(0:Int).toNat,none⟩ (.int .i64 (rd x6_1 (ji57))))) ?hg ?ho ?hn ?hr ?_;(case ho=>rfl);(case hg=>rfl);(case hn=>rfl);(case hr=>first|(go_simp;done)|(go_simp;rfl));intro w69 hw;have hg:w66.grownBy w69 (some go60):=(by rw [hw];exact HP68.2);have hp_:Kd.R (Kd.int .i64) 2 w69 w.heap.size (fun _=>True) (.slice (some ⟨go60,0,none⟩) x6_1.length co67) y676:=(by rw [hw,Ny676.1];exact HP68.1);clear HP68;refine zA5 (hp_) (blk_grown (g:=gb628) (o:=.cells #[.int .i64 0,.int .i64 0,.int .i64 0,.int .i64 0] 25 (0,0)) (zB BK628.1) hg (Kd.R_ne HO_6.1 BK628.1 (by decide))) (blk_grown (g:=gb645) (o:=.cells #[.int .i64 t636,.int .i64 t637,.int .i64 t638,.int .i64 t639] 25 (0,0)) (zB BK645.1) hg (Kd.R_ne HO_6.1 BK645.1 (by decide))) (IsS115.grown (zI2 HI632.1 NB632_628.1 NB632_645.1) hg (IsS115.own_ne HI632.1 HO_6.1 (by decide))) ((by rw [hw];exact below_set (HB.1) GB60.1:Below w.heap.size w w69)) ?_;clear HO_6 BK628 BK645 HI632 HB;intro HO_6 BK628 BK645 HI632 HB;clear hg hw hp_;have p61:0≤((ji57):Int):=zo;have q61:((ji57):Int)<((x6_1.length:Int):Int):=zo;obtain ⟨hx61_0,hf61_0⟩:=Kd.R_celln 0 HO_6.1 ((ji57):Int) p61 q61;replace p61:=eq_true p61;replace q61:=eq_true q61;obtain ⟨hy70_,hz70_⟩:=Kd.R_celln 0 HO_6.1 ((ji57):Int) zo zo;have HP70:=Kd.R_putg HO_6.1 ((ji57):Int) (rd x6_1 0))|((with_reducible refine gate_store (t:=2) (p:=69) rfl ?_);refine store_event (t:=2) (p:=69) (v:=?vo_w71) (w1:=(w69.setCell ⟨go60,((ji57):Int).toNat,none⟩ (.int .i64 (rd x6_1 0)))) ?hg ?ho ?hn ?hr ?_;(case ho=>rfl);(case hg=>rfl);(case hn=>rfl);(case hr=>first|(go_simp;done)|(go_simp;rfl));intro w71 hw;have hg:w69.grownBy w71 (some go60):=(by rw [hw];exact HP70.2);have hp_:Kd.R (Kd.int .i64) 2 w71 w.heap.size (fun _=>True) (.slice (some ⟨go60,0,none⟩) x6_1.length co67) y677:=(by rw [hw,Ny677.1];exact HP70.1);clear HP70;refine zA5 (hp_) (blk_grown (g:=gb628) (o:=.cells #[.int .i64 0,.int .i64 0,.int .i64 0,.int .i64 0] 25 (0,0)) (zB BK628.1) hg (Kd.R_ne HO_6.1 BK628.1 (by decide))) (blk_grown (g:=gb645) (o:=.cells #[.int .i64 t636,.int .i64 t637,.int .i64 t638,.int .i64 t639] 25 (0,0)) (zB BK645.1) hg (Kd.R_ne HO_6.1 BK645.1 (by decide))) (IsS115.grown (zI2 HI632.1 NB632_628.1 NB632_645.1) hg (IsS115.own_ne HI632.1 HO_6.1 (by decide))) ((by rw [hw];exact below_set (HB.1) GB60.1:Below w.heap.size w w71)) ?_;clear HO_6 BK628 BK645 HI632 HB;intro HO_6 BK628 BK645 HI632 HB;clear hg hw hp_;obtain ⟨Z72_0,Z72_1,Z72_2,Z72_3⟩:=zc4 BK645;obtain ⟨V72_0,V72_1,V72_2,V72_3⟩:=zf4 BK645)|((with_reducible refine gate_callee (f:=43) rfl ?_);refine zL (some 72) Tryz.func43 #[.pointer (some ⟨g632,0,none⟩),.agg #[.int .i64 t636,.int .i64 t637,.int .i64 t638,.int .i64 t639]] ?_;(with_reducible refine (spec_l05Bad.calls g632 t629 t650 t651 t636 t637 t638 t639 t678 t679 t680 t681 t682 t683 w _ ?side1 ?side2 A62.1).mono ?_);(case side1=>exact zI2 HI632.1 NB632_628.1 NB632_645.1);(case side2=>exact zH3 HB.1 (IsS115.ge HI632.1) GE628.1 GE645.1);rintro e w73 ⟨rfl,hi,hb,hk⟩;refine ⟨_,rfl,?_⟩;refine zA5 (Kd.R_mono (Kd.R_keep (IsS115.apart (show IsS115 w _ g632 t629 t650 t651 from zI2 HI632.1 NB632_628.1 NB632_645.1) (zR HO_6.1) (by decide)) hk (fun _ h=>h.2)) (fun _ h=>h.1)) (zYk hk BK628.1 NB628_632.1) (zYk hk BK645.1 NB645_632.1) (hb) (hi) ?_;clear HO_6 BK628 BK645 HB HI632;intro HO_6 BK628 BK645 HB HI632;(try clear hb);(try clear hk);(try clear hi);have hnb74:=NB628_632.1;have hnc74:=NB632_628.1;obtain ⟨Z75_0,Z75_1,Z75_2,Z75_3⟩:=zc4 BK628;obtain ⟨V75_0,V75_1,V75_2,V75_3⟩:=zf4 BK628))
          refine bodyPost_ret (results_ct rfl _ _ gb628 25 #[.int .i64 t678,.int .i64 t679,.int .i64 t680,.int .i64 t681] (0,0) _ rfl (zQ BK628.1) Tryz.underlying25 rfl (by kernel_rfl)) rfl ?_
          exact ⟨_,by first|rfl|(simp [errW_none,errW_some] <;> rfl)|(simp only [← hji57];first|rfl|(simp [errW_none,errW_some] <;> rfl))|(simp [*,errW_none,errW_some] <;> rfl),by (with_reducible repeat (first|apply Kd.R_alloc|apply Kd.R_drewN|apply Kd.R_drew));exact Kd.R_mono (Kd.R_far (p:=⟨gb628,3,none⟩) (Kd.R_far (p:=⟨gb628,2,none⟩) (Kd.R_far (p:=⟨gb628,1,none⟩) (Kd.R_far (p:=⟨gb628,0,none⟩) (Kd.R_types HO_6.1 BK628.1 (by decide)) (fun _ hk=>hk.2) (.int .i64 t678)) (fun _ hk=>hk.2) (.int .i64 t679)) (fun _ hk=>hk.2) (.int .i64 t680)) (fun _ hk=>hk.2) (.int .i64 t681)) (fun _ hk=>trivial),zH3 HB.1 (IsS115.ge HI632.1) GE628.1 GE645.1⟩
         ·rw [if_neg c59] at H
          exact absurd H (by simp)
        ·rw [if_neg c58] at H
         exact absurd H (by simp)
       ·rw [if_neg c56] at H
        exact absurd H (by simp)
      ·rw [if_neg c55] at H
       have c55b0:=zq3 c55
       have c55b1:=zq4 c55
       obtain ⟨⟨t684,t685,t686,t687,t688,t689⟩,A76,H⟩:=zb H;(try dsimp only at H)
       simp only [Option.some.injEq,Prod.mk.injEq] at H
       obtain ⟨rfl,rfl,rfl,rfl,rfl⟩:=H
       have hnb77:=NB645_628.1
       have hnc77:=NB628_645.1
       have hnb78:=NB645_632.1
       have hnc78:=NB632_645.1
       obtain ⟨Z79_0,Z79_1,Z79_2,Z79_3⟩:=zc4 BK645
       obtain ⟨V79_0,V79_1,V79_2,V79_3⟩:=zf4 BK645
       go_wp2_with (first|((with_reducible refine gate_callee (f:=42) rfl ?_);refine zL (some 36) Tryz.func42 #[.pointer (some ⟨g632,0,none⟩),.int .i64 8] ?_;(with_reducible refine (spec_l01Next.calls g632 t629 t640 t641 8 t649 t650 t651 w _ ?side1 ?side2 A22.1).mono ?_);(case side1=>exact zI2 HI632.1 NB632_628.1 NB632_645.1);(case side2=>exact zH3 HB.1 (IsS115.ge HI632.1) GE628.1 GE645.1);rintro e w80 ⟨rfl,hi,hb,hk⟩;refine ⟨_,rfl,?_⟩;refine zA5 (Kd.R_mono (Kd.R_keep (IsS115.apart (show IsS115 w _ g632 t629 t640 t641 from zI2 HI632.1 NB632_628.1 NB632_645.1) (zR HO_6.1) (by decide)) hk (fun _ h=>h.2)) (fun _ h=>h.1)) (zYk hk BK628.1 NB628_632.1) (zYk hk BK645.1 NB645_632.1) (hb) (hi) ?_;clear HO_6 BK628 BK645 HB HI632;intro HO_6 BK628 BK645 HB HI632;(try clear hb);(try clear hk);(try clear hi);obtain ⟨Z81_0,Z81_1,Z81_2,Z81_3⟩:=zc4 BK645;obtain ⟨V81_0,V81_1,V81_2,V81_3⟩:=zf4 BK645)|((with_reducible refine gate_callee (f:=43) rfl ?_);refine zL (some 72) Tryz.func43 #[.pointer (some ⟨g632,0,none⟩),.agg #[.int .i64 t636,.int .i64 t637,.int .i64 t638,.int .i64 t639]] ?_;(with_reducible refine (spec_l05Bad.calls g632 t629 t650 t651 t636 t637 t638 t639 t684 t685 t686 t687 t688 t689 w _ ?side1 ?side2 A76.1).mono ?_);(case side1=>exact zI2 HI632.1 NB632_628.1 NB632_645.1);(case side2=>exact zH3 HB.1 (IsS115.ge HI632.1) GE628.1 GE645.1);rintro e w82 ⟨rfl,hi,hb,hk⟩;refine ⟨_,rfl,?_⟩;refine zA5 (Kd.R_mono (Kd.R_keep (IsS115.apart (show IsS115 w _ g632 t629 t650 t651 from zI2 HI632.1 NB632_628.1 NB632_645.1) (zR HO_6.1) (by decide)) hk (fun _ h=>h.2)) (fun _ h=>h.1)) (zYk hk BK628.1 NB628_632.1) (zYk hk BK645.1 NB645_632.1) (hb) (hi) ?_;clear HO_6 BK628 BK645 HB HI632;intro HO_6 BK628 BK645 HB HI632;(try clear hb);(try clear hk);(try clear hi);have hnb83:=NB628_632.1;have hnc83:=NB632_628.1;obtain ⟨Z84_0,Z84_1,Z84_2,Z84_3⟩:=zc4 BK628;obtain ⟨V84_0,V84_1,V84_2,V84_3⟩:=zf4 BK628))
       refine bodyPost_ret (results_ct rfl _ _ gb628 25 #[.int .i64 t684,.int .i64 t685,.int .i64 t686,.int .i64 t687] (0,0) _ rfl (zQ BK628.1) Tryz.underlying25 rfl (by kernel_rfl)) rfl ?_
       exact ⟨_,zE,by (with_reducible repeat (first|apply Kd.R_alloc|apply Kd.R_drewN|apply Kd.R_drew));exact Kd.R_mono (Kd.R_far (p:=⟨gb628,3,none⟩) (Kd.R_far (p:=⟨gb628,2,none⟩) (Kd.R_far (p:=⟨gb628,1,none⟩) (Kd.R_far (p:=⟨gb628,0,none⟩) (Kd.R_types HO_6.1 BK628.1 (by decide)) (fun _ hk=>hk.2) (.int .i64 t684)) (fun _ hk=>hk.2) (.int .i64 t685)) (fun _ hk=>hk.2) (.int .i64 t686)) (fun _ hk=>hk.2) (.int .i64 t687)) (fun _ hk=>trivial),zH3 HB.1 (IsS115.ge HI632.1) GE628.1 GE645.1⟩
end Go.Proofs.YtlmohkbimnhecaaGreat.Q
