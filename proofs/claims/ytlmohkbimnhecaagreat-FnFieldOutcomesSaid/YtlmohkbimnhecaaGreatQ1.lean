import Derived.Test.YtlmohkbimnhecaaGreatQ0
import Derived.Test.YtlmohkbimnhecaaGreatSq
set_option maxHeartbeats 8000000
set_option maxRecDepth 100000
namespace Go.Proofs.YtlmohkbimnhecaaGreat.Q
open Go.RowKit Go.Proofs.YtlmohkbimnhecaaGreatW.PrintWords Go.Proofs.YtlmohkbimnhecaaGreatW.PrintLast Go.Proofs.YtlmohkbimnhecaaGreatW.PrintMore
attribute [local go_sem] max2_int min2_int max_two min_two max_three min_three max_four min_four
set_option linter.unusedVariables false
set_option linter.unusedSimpArgs false
def laws_big.f (l0:List Int):Option (Bool):=some (decide ((l0.length:Int)>4096))
theorem laws_big.calls (A0:Option Addr) (c0:Nat) (l0:List Int) (r:Bool) (w:World) (hr0:Kd.C (Kd.int .u8) w A0 l0.length l0) (hc0:l0.length≤c0) (h:laws_big.f l0=some r):
 Calls Tryz.prog 4 #[.slice A0 l0.length c0] w fun e w'=>e=.returned (.bool r)∧Drawn0 w w':=by
 have HR0:=Aside0.mk hr0
 have HC0:=Aside0.mk hc0
 clear hr0 hc0
 have H:(some (decide ((l0.length:Int)>4096)))=some r:=h
 clear h
 obtain rfl:=Option.some.inj H
 go_enter Tryz.func4,Tryz.ntmps4
 go_wp2
 go_ret
 exact ⟨zF,zD⟩
def IsS115 (w0 W:World) (g:Nat) (f0:List Int) (f1:Int) (f2:Int):Prop:=∃ A0 c0,W.heap[g]?=some (.cells #[.slice A0 f0.length c0,.int .i64 f1,.int .u64 f2] 115 (0,0))∧w0.heap.size≤g∧Kd.C (Kd.int .u8) w0 A0 f0.length f0
theorem IsS115.grown {w0 W:World} {g:Nat} {f0:List Int} {f1:Int} {f2:Int} {W1:World} {row:Option Nat} (h:IsS115 w0 W g f0 f1 f2) (hw:W.grownBy W1 row) (hne:some g≠row):IsS115 w0 W1 g f0 f1 f2:=by
 obtain ⟨A0,c0,hb,hg,hr0⟩:=h
 exact ⟨A0,c0,blk_grown hb hw hne,hg,hr0⟩
theorem IsS115.fresh {w0 W:World} {g:Nat} {f0:List Int} {f1:Int} {f2:Int} (h:IsS115 w0 W g f0 f1 f2):∀ k,W.heap.size≤k→k≠g:=by
 obtain ⟨A0,c0,hb,hg,hr0⟩:=h
 exact Kd.freshB hb
theorem IsS115.kept {w0 W:World} {g:Nat} {f0:List Int} {f1:Int} {f2:Int} {W1:World} {S:Nat→Prop} (h:IsS115 w0 W g f0 f1 f2) (hk:Kept W W1 S) (hne:¬ S g):IsS115 w0 W1 g f0 f1 f2:=by
 obtain ⟨A0,c0,hb,hg,hr0⟩:=h
 exact ⟨A0,c0,blk_kept hb hk hne,hg,hr0⟩
theorem IsS115.below {w0 W:World} {g:Nat} {f0:List Int} {f1:Int} {f2:Int} {W1:World} (h:IsS115 w0 W g f0 f1 f2) (hw:Below W.heap.size W W1):IsS115 w0 W1 g f0 f1 f2:=h.grown (grown_of_below hw none) (by simp)
theorem IsS115.alloc {w0 W:World} {g:Nat} {f0:List Int} {f1:Int} {f2:Int} (h:IsS115 w0 W g f0 f1 f2) (o:Obj):IsS115 w0 (W.alloc o) g f0 f1 f2:=h.below (below_alloc (Below.refl _ _) o)
theorem IsS115.drewN {w0 W:World} {g:Nat} {f0:List Int} {f1:Int} {f2:Int} (h:IsS115 w0 W g f0 f1 f2) (m:Nat):IsS115 w0 (W.drewN m) g f0 f1 f2:=h
theorem IsS115.drew {w0 W:World} {g:Nat} {f0:List Int} {f1:Int} {f2:Int} (h:IsS115 w0 W g f0 f1 f2):IsS115 w0 W.drew g f0 f1 f2:=h
theorem IsS115.at_ {w0 W:World} {g:Nat} {f0:List Int} {f1:Int} {f2:Int} {w':World} {m:Nat} (hq:W.drewN m=w') (h:IsS115 w0 W g f0 f1 f2):IsS115 w0 w' g f0 f1 f2:=by subst hq;exact IsS115.drewN h m
theorem IsS115.apart {w0 W:World} {g:Nat} {f0:List Int} {f1:Int} {f2:Int} {α:Type} {d:Kd α} {e:Nat} {base:Nat} {ok:Nat→Prop} {v:Value} {xs:List α} (h:IsS115 w0 W g f0 f1 f2) (ho:d.R e W base ok v xs) (ht:∀ q,q∈e::d.E→q≠115):d.R e W base (fun k=>ok k∧k≠g) v xs:=by
 obtain ⟨A0,c0,hb,hg,hr0⟩:=h
 exact Kd.R_types ho hb ht
theorem IsS115.own_ne {w0 W:World} {g:Nat} {f0:List Int} {f1:Int} {f2:Int} {α:Type} {d:Kd α} {e:Nat} {base:Nat} {ok:Nat→Prop} {v:Value} {xs:List α} (h:IsS115 w0 W g f0 f1 f2) (ho:d.R e W base ok v xs) (ht:e≠115):some g≠v.ownBlock:=by
 obtain ⟨A0,c0,hb,hg,hr0⟩:=h
 exact Kd.R_ne ho hb ht
theorem IsS115.lt {w0 W:World} {g:Nat} {f0:List Int} {f1:Int} {f2:Int} (h:IsS115 w0 W g f0 f1 f2):g<W.heap.size:=by
 obtain ⟨A0,c0,hb,hg,hr0⟩:=h
 exact blk_lt hb
theorem IsS115.ge {w0 W:World} {g:Nat} {f0:List Int} {f1:Int} {f2:Int} (h:IsS115 w0 W g f0 f1 f2):w0.heap.size≤g:=by
 obtain ⟨A0,c0,hb,hg,hr0⟩:=h
 exact hg
theorem IsS115.ne_blk {w0 W:World} {g:Nat} {f0:List Int} {f1:Int} {f2:Int} {a:Nat} {cs:Array Value} {t:TypeId} {fr:Nat×Nat} (h:IsS115 w0 W g f0 f1 f2) (hb2:W.heap[a]?=some (.cells cs t fr)) (ht:t≠115):g≠a:=by
 obtain ⟨A0,c0,hb,hg,hr0⟩:=h
 rintro rfl
 rw [hb] at hb2
 injection hb2 with hb2
 injection hb2 with _ ht2
 exact ht ht2.symm
theorem IsS115.far {w0 W:World} {g:Nat} {f0:List Int} {f1:Int} {f2:Int} {p:Addr} (h:IsS115 w0 W g f0 f1 f2) (hne:g≠p.block) (u:Value):IsS115 w0 (W.setCell p u) g f0 f1 f2:=by
 obtain ⟨A0,c0,hb,hg,hr0⟩:=h
 exact ⟨A0,c0,blk_far hb hne u,hg,hr0⟩
theorem cellS115_0 {W:World} {g:Nat} {A0:Option Addr} {c0:Nat} {f0:List Int} {f1:Int} {f2:Int} (h:W.heap[g]?=some (.cells #[.slice A0 f0.length c0,.int .i64 f1,.int .u64 f2] 115 (0,0))):W.cell? ⟨g,0,none⟩=some (.slice A0 f0.length c0):=(blk_cell h 0).trans rfl
theorem cellS115_1 {W:World} {g:Nat} {A0:Option Addr} {c0:Nat} {f0:List Int} {f1:Int} {f2:Int} (h:W.heap[g]?=some (.cells #[.slice A0 f0.length c0,.int .i64 f1,.int .u64 f2] 115 (0,0))):W.cell? ⟨g,1,none⟩=some (.int .i64 f1):=(blk_cell h 1).trans rfl
theorem IsS115.set_1 {w0 W:World} {g:Nat} {f0:List Int} {f1:Int} {f2:Int} (h:IsS115 w0 W g f0 f1 f2) (x:Int):IsS115 w0 (W.setCell ⟨g,1,none⟩ (.int .i64 x)) g f0 x f2:=by
 obtain ⟨A0,c0,hb,hg,hr0⟩:=h
 exact ⟨A0,c0,by simpa using blk_set hb 1 (.int .i64 x),hg,hr0⟩
theorem cellS115_2 {W:World} {g:Nat} {A0:Option Addr} {c0:Nat} {f0:List Int} {f1:Int} {f2:Int} (h:W.heap[g]?=some (.cells #[.slice A0 f0.length c0,.int .i64 f1,.int .u64 f2] 115 (0,0))):W.cell? ⟨g,2,none⟩=some (.int .u64 f2):=(blk_cell h 2).trans rfl
theorem IsS115.set_2 {w0 W:World} {g:Nat} {f0:List Int} {f1:Int} {f2:Int} (h:IsS115 w0 W g f0 f1 f2) (x:Int):IsS115 w0 (W.setCell ⟨g,2,none⟩ (.int .u64 x)) g f0 f1 x:=by
 obtain ⟨A0,c0,hb,hg,hr0⟩:=h
 exact ⟨A0,c0,by simpa using blk_set hb 2 (.int .u64 x),hg,hr0⟩
theorem IsS115.new (w0 W:World) (A0:Option Addr) (c0:Nat) (f0:List Int) (f1:Int) (f2:Int) (hB:Below w0.heap.size w0 W) (hr0:Kd.C (Kd.int .u8) w0 A0 f0.length f0):IsS115 w0 (W.alloc (.cells #[.slice A0 f0.length c0,.int .i64 f1,.int .u64 f2] 115)) W.heap.size f0 f1 f2:=⟨A0,c0,by simpa using heap_alloc_new W _,hB.size,hr0⟩
def spec_l01From.l0:Nat→List Int→Int→List Int→Int→Int→Option (List Int×Int×Int)
 |0,_,_,_,_,_=>none
 |k+1,x0,x4,x102000,x102001,x102002=>if x4<(x0.length:Int) then (if x4<4096 then (if 0≤x4 then (spec_l01From.l0 k x0 (wrap64 (x4+1)) x102000 x102001 (IntKind.u64.wrap ((IntKind.u64.wrap ((IntKind.u64.wrap (x102002*1099511628211))+(IntKind.u64.wrap (rd x0 x4))))+229))) else (none)) else (some (x102000,x102001,x102002))) else (some (x102000,x102001,x102002))
def spec_l01From.f (k:Nat) (l0:List Int):Option (List Int×Int×Int):=spec_l01From.l0 k l0 0 l0 0 (IntKind.u64.wrap (13881+(IntKind.u64.wrap ((l0.length:Int)))))
def spec_l01From.T5:Bool×List (List Nat×List Nat):=(true,[([],[]),([],[]),([1],[1]),([2],[2]),([3],[3]),([4],[4]),([],[]),([],[]),([6,7],[6,7]),([8],[8]),([9],[9]),([5,10],[5,10]),([11],[11]),([0,0,1,2,3,4,5,6,7,8,9,10,11,12],[0]),([13,0,1,2,3,4,5,6,7,8,9,10,11,12],[13]),([14,12,0,1,2,3,4,5,6,7,8,9,10,11,12],[12,14])])
def spec_l01From.B5:List Nat:=[0,0,2,6,14,30,0,0,192,448,960,2046,4094,8191,16383,32767]
theorem spec_l01From.tab5:rtab .any (opsOf Tryz.f41 5)=spec_l01From.T5:=by kernel_rfl
theorem spec_l01From.bits5:waitsOk spec_l01From.T5.2 spec_l01From.B5=true:=by kernel_rfl
theorem spec_l01From.calls (k:Nat) (A0:Option Addr) (c0:Nat) (l0:List Int) (r1:List Int) (r2:Int) (r3:Int) (w0 w:World) (hB:Below w0.heap.size w0 w) (hr0:Kd.C (Kd.int .u8) w0 A0 l0.length l0) (hc0:l0.length≤c0) (h:spec_l01From.f k l0=some (r1,r2,r3)):
 Calls Tryz.prog 41 #[.slice A0 l0.length c0] w fun e w'=>∃ g_:Nat,e=.returned (.pointer (some ⟨g_,0,none⟩))∧IsS115 w0 w' g_ r1 r2 r3∧Below w0.heap.size w0 w'∧Below w.heap.size w w':=by
 have hu115:=Tryz.underlying115
 have HR0:=Aside0.mk hr0
 have HC0:=Aside0.mk hc0
 clear hr0 hc0
 have HBW:=Aside0.mk (Below.refl w.heap.size w)
 have HW0:=Aside0.mk hB.size
 have HB:=Aside0.mk hB
 clear hB
 have H:(spec_l01From.l0 k l0 0 l0 0 (IntKind.u64.wrap (13881+(IntKind.u64.wrap ((l0.length:Int))))))=some (r1,r2,r3):=h
 clear h
 have H':=Aside0.mk H
 clear H
 go_enter Tryz.func41,Tryz.ntmps41
 go_wp2_with (first|((with_reducible refine gate_dst (N:=11) rfl ?_);refine zX 11 #[.slice A0 l0.length c0,.int .i64 0,.int .u64 (IntKind.u64.wrap (13881+(IntKind.u64.wrap ((l0.length:Int)))))] 115 ?_;intro gb101 hg w2 hbox hb;refine zA5 (below_step HBW.1 hb) (below_step (zH HB.1) hb) (hbox) ((zS hg (below_size (zH HBW.1)):w.heap.size≤gb101)) ((Nat.le_trans HW0.1 (zS hg (below_size (zH HBW.1)):w.heap.size≤gb101):w0.heap.size≤gb101)) ?_;clear HBW HB;intro HBW HB BK101 GW101 GE101;clear hb hbox hg))
 go_loopg [4] k (fun kq v4 w'=>∃ (x4_1:Int) (x102002_1:Int),v4=.int .i64 x4_1∧Aside0 (spec_l01From.l0 kq l0 x4_1 l0 0 x102002_1=some (r1,r2,r3))∧Aside0 (kq≤k)∧Aside0 (w'.heap[gb101]?=some (.cells #[(.slice A0 l0.length c0),.int .i64 0,.int .u64 x102002_1] 115 (0,0)))∧Aside0 (Below w0.heap.size w0 w')∧Aside0 (Below w.heap.size w w'))
 case atStart=>exact ⟨(0),(IntKind.u64.wrap (13881+(IntKind.u64.wrap ((l0.length:Int))))),(zF),H',⟨Nat.le_refl _⟩,⟨zB BK101.1⟩,⟨zH1 HB.1 GE101.1⟩,⟨zH1 HBW.1 GW101.1⟩⟩
 case round=>
  clear H'
  try clear p2
  obtain ⟨x4_1,x102002_1,rfl,HA,HK1,BK101,HB,HBW⟩:=hrel
  cases gk with
  |zero=>exact absurd HA.1 (by simp [spec_l01From.l0])
  |succ k1=>
   have H:=HA.1
   clear HA
   simp only [spec_l01From.l0] at H
   by_cases c3:x4_1<(l0.length:Int)
   ·rw [if_pos c3] at H
    have c3b0:=decide_eq_true c3
    clear c3
    by_cases c4:x4_1<4096
    ·rw [if_pos c4] at H
     have c4b0:=decide_eq_true c4
     clear c4
     by_cases c5:0≤x4_1
     ·rw [if_pos c5] at H
      have c5b0:=decide_eq_true c5
      clear c5
      have H':=Aside0.mk H
      clear H
      try go_wp2
      have n0_:=Aside0.mk (blk_drew BK101.1)
      have n1_:=Aside0.mk (below_drew1 HB.1)
      clear BK101
      clear HB
      have BK101:=n0_
      have HB:=n1_
      replace HBW:=Aside0.mk (below_drew1 HBW.1)
      clear n0_ n1_
      have p102:0≤(x4_1:Int):=zo
      have q102:x4_1<(l0.length:Int):=zo
      obtain ⟨ad102,e102,hx102_0⟩:=Kd.at_int HR0.1 x4_1 p102 q102
      have hw102_0:=hx102_0
      cases e102
      replace hx102_0:=pw_cell_below HB.1 hx102_0
      replace p102:=eq_true p102
      replace q102:=eq_true q102
      refine start_ (n:=16) (S:=fun w'=>w'.cell? ⟨gb101,0,none⟩=some (.slice (some ad102) l0.length c0)∧w'.cell? ⟨gb101,1,none⟩=some (.int .i64 0)∧w'.cell? ⟨gb101,2,none⟩=some (.int .u64 x102002_1)∧w'.cell? (ad102.add (x4_1).toNat)=some (.int .u8 (rd l0 x4_1))) (ds:=[15]) #[false,false,false,false,false,false,false,false,false,false,false,false,false,false,false,false] (by kernel_rfl) rfl rfl ⟨zx BK101 0,zx BK101 1,zx BK101 2,((HB.1.cell (World.block_lt_of_cell? _ _ hw102_0)).trans hw102_0)⟩ (fun hHeld=>?_);refine with_tabW spec_l01From.tab5 spec_l01From.bits5 (fun HT_ HW_=>?_)
      generalize wr.drew=w6 at BK101 HB HBW hx102_0 hHeld ⊢
      refine zP HT_ 0 (some 22) rfl rfl ?_
      refine zP HT_ 1 (some 23) rfl rfl ?_
      refine zP HT_ 2 (some 24) rfl rfl ?_
      refine zP HT_ 3 (some 25) rfl rfl ?_
      refine zP HT_ 6 (some 28) rfl rfl ?_
      refine zP HT_ 7 (some 29) rfl rfl ?_
      refine zP HT_ 8 (some 30) rfl rfl ?_
      refine zT HT_ HW_ hHeld 4 (some 26) rfl rfl ?_
      refine zP HT_ 5 (some 27) rfl rfl ?_
      refine zT HT_ HW_ hHeld 9 (some 31) rfl rfl ?_
      refine zP HT_ 10 (some 32) rfl rfl ?_
      refine zP HT_ 11 (some 33) rfl rfl ?_
      refine zP HT_ 12 (some 34) rfl rfl ?_
      refine zP HT_ 13 (some 35) rfl rfl ?_
      refine zP HT_ 14 (some 36) rfl rfl ?_
      refine last_ (i:=15) (N:=none) #[true,true,true,true,true,true,true,true,true,true,true,true,true,true,true,true] rfl rfl (one_of HT_.1 (by kernel_rfl)) (by decide) (fun K hK=>?_)
      have hs7:w6.cell? ⟨gb101,2,none⟩=some (.int .u64 x102002_1):=zx BK101 2
      have hfs7:=blk_frozen BK101.1 2
      refine skip_ (w1:=?_) (by rfl) rfl ?_ ?_
      rotate_left
      ·go_simp
       rfl
      refine hK.out _ _ ?_
      clear hK K
      refine done_ (done_of HT_.1 (by kernel_rfl)) ?_
      try go_wp2
      go_roundg k1
      case measure=>have:=HK1.1;omega
      case rel=>exact ⟨(wrap64 (x4_1+1)),(IntKind.u64.wrap ((IntKind.u64.wrap ((IntKind.u64.wrap (x102002_1*1099511628211))+(IntKind.u64.wrap (rd l0 x4_1))))+229)),(zF),H',⟨by have:=HK1.1;omega⟩,⟨zQ BK101.1⟩,⟨zH1 HB.1 GE101.1⟩,⟨zH1 HBW.1 GW101.1⟩⟩
     ·rw [if_neg c5] at H
      exact absurd H (by simp)
    ·rw [if_neg c4] at H
     have c4b0:=decide_eq_false c4
     clear c4
     simp only [Option.some.injEq,Prod.mk.injEq] at H
     obtain ⟨rfl,rfl,rfl⟩:=H
     go_wp2
     go_ret
     exact ⟨_,rfl,(show IsS115 w0 _ gb101 l0 0 x102002_1 from ⟨_,_,by (with_reducible repeat (first|refine blk_drewN ?_ _|refine blk_drew ?_|refine blk_alloc ?_ _));exact BK101.1,GE101.1,HR0.1⟩),zH1 HB.1 GE101.1,zH1 HBW.1 GW101.1⟩
   ·rw [if_neg c3] at H
    have c3b0:=decide_eq_false c3
    clear c3
    simp only [Option.some.injEq,Prod.mk.injEq] at H
    obtain ⟨rfl,rfl,rfl⟩:=H
    go_wp2
    go_ret
    exact ⟨_,rfl,(show IsS115 w0 _ gb101 l0 0 x102002_1 from ⟨_,_,by (with_reducible repeat (first|refine blk_drewN ?_ _|refine blk_drew ?_|refine blk_alloc ?_ _));exact BK101.1,GE101.1,HR0.1⟩),zH1 HB.1 GE101.1,zH1 HBW.1 GW101.1⟩
def spec_l01Next.f (s0_0:List Int) (s0_1:Int) (s0_2:Int) (a1:Int):Option (Int×Int×Int):=if a1<1 then (some (0,s0_1,s0_2)) else (if s0_1<(s0_0.length:Int) then (if 0≤s0_1 then (if a1=0 then (none) else (some (Int.tmod (wrap64 ((wrap64 (Go.bits .and .u64 ((IntKind.u64.wrap ((IntKind.u64.wrap (s0_2*6364136223846793005))+1442695040888963407))/8589934592) 16777215))+(wrap64 (rd s0_0 s0_1)))) a1,wrap64 (s0_1+1),IntKind.u64.wrap ((IntKind.u64.wrap (s0_2*6364136223846793005))+1442695040888963407)))) else (none)) else (if a1=0 then (none) else (some (Int.tmod (wrap64 (Go.bits .and .u64 ((IntKind.u64.wrap ((IntKind.u64.wrap (s0_2*6364136223846793005))+1442695040888963407))/8589934592) 16777215)) a1,s0_1,IntKind.u64.wrap ((IntKind.u64.wrap (s0_2*6364136223846793005))+1442695040888963407)))))
theorem spec_l01Next.calls (g:Nat) (s0_0:List Int) (s0_1:Int) (s0_2:Int) (a1:Int) (r1:Int) (r2:Int) (r3:Int) (w0 w:World) (hI:IsS115 w0 w g s0_0 s0_1 s0_2) (hB:Below w0.heap.size w0 w) (h:spec_l01Next.f s0_0 s0_1 s0_2 a1=some (r1,r2,r3)):
 Calls Tryz.prog 42 #[.pointer (some ⟨g,0,none⟩),.int .i64 a1] w fun e w'=>e=.returned (.int .i64 r1)∧IsS115 w0 w' g s0_0 r2 r3∧Below w0.heap.size w0 w'∧KeepBut w w' g none:=by
 have HI0:=Aside0.mk hI
 have HK:=Aside0.mk (KeepBut.refl w g none)
 have HL:=Aside0.mk hB.size
 clear hI
 have HW0:=Aside0.mk hB.size
 have HB:=Aside0.mk hB
 clear hB
 have H:(if a1<1 then (some (0,s0_1,s0_2)) else (if s0_1<(s0_0.length:Int) then (if 0≤s0_1 then (if a1=0 then (none) else (some (Int.tmod (wrap64 ((wrap64 (Go.bits .and .u64 ((IntKind.u64.wrap ((IntKind.u64.wrap (s0_2*6364136223846793005))+1442695040888963407))/8589934592) 16777215))+(wrap64 (rd s0_0 s0_1)))) a1,wrap64 (s0_1+1),IntKind.u64.wrap ((IntKind.u64.wrap (s0_2*6364136223846793005))+1442695040888963407)))) else (none)) else (if a1=0 then (none) else (some (Int.tmod (wrap64 (Go.bits .and .u64 ((IntKind.u64.wrap ((IntKind.u64.wrap (s0_2*6364136223846793005))+1442695040888963407))/8589934592) 16777215)) a1,s0_1,IntKind.u64.wrap ((IntKind.u64.wrap (s0_2*6364136223846793005))+1442695040888963407))))))=some (r1,r2,r3):=h
 clear h
 by_cases c3:a1<1
 ·rw [if_pos c3] at H
  have c3b0:=decide_eq_true c3
  clear c3
  simp only [Option.some.injEq,Prod.mk.injEq] at H
  obtain ⟨rfl,rfl,rfl⟩:=H
  go_enter Tryz.func42,Tryz.ntmps42
  go_wp2
  repeat (go_quiet (fail);try go_wp2)
  go_ret
  exact ⟨zE,zI HI0.1,zH1 HB.1 (IsS115.ge HI0.1),zJ HK.1⟩
 ·rw [if_neg c3] at H
  have c3b0:=decide_eq_false c3
  clear c3
  by_cases c4:s0_1<(s0_0.length:Int)
  ·rw [if_pos c4] at H
   have c4b0:=decide_eq_true c4
   clear c4
   by_cases c5:0≤s0_1
   ·rw [if_pos c5] at H
    have c5b0:=decide_eq_true c5
    clear c5
    by_cases c6:a1=0
    ·rw [if_pos c6] at H
     exact absurd H (by simp)
    ·rw [if_neg c6] at H
     have c6b0:=zq3 c6
     have c6b1:=zq4 c6
     simp only [Option.some.injEq,Prod.mk.injEq] at H
     obtain ⟨rfl,rfl,rfl⟩:=H
     obtain ⟨ASz7_0,cSz7_0,HGz7,hgz7,HSz7_0⟩:=HI0.1
     have Z7_0:=cellS115_0 HGz7
     have Z7_1:=cellS115_1 HGz7
     have Z7_2:=cellS115_2 HGz7
     have V7_1:=blk_frozen HGz7 1
     have V7_2:=blk_frozen HGz7 2
     clear HGz7 hgz7
     have p103:0≤(s0_1:Int):=zo
     have q103:s0_1<(s0_0.length:Int):=zo
     obtain ⟨ad103,e103,hx103_0⟩:=Kd.at_int HSz7_0 s0_1 p103 q103
     cases e103
     have hn103_0:ad103.block≠g:=Nat.ne_of_lt (Nat.lt_of_lt_of_le (by have:=World.block_lt_of_cell? _ _ hx103_0;first|rwa [add_block] at this|exact this) (IsS115.ge HI0.1))
     replace hx103_0:=pw_cell_below HB.1 hx103_0
     replace hx103_0:=(cell_far (p:=⟨g,2,none⟩) (by first|(rw [add_block];exact hn103_0)|(show (Addr.add _ _).block≠_;rw [add_block];exact hn103_0)|exact hn103_0) (.int .u64 (IntKind.u64.wrap ((IntKind.u64.wrap (s0_2*6364136223846793005))+1442695040888963407)))).trans hx103_0
     (try have hy103_0:=fun (n_:Nat)=>(show (((w.drewN n_).setCell ⟨g,2,none⟩ (.int .u64 (IntKind.u64.wrap ((IntKind.u64.wrap (s0_2*6364136223846793005))+1442695040888963407))))).cell? _=some _ from hx103_0))
     clear hn103_0
     replace p103:=eq_true p103
     replace q103:=eq_true q103
     go_enter Tryz.func42,Tryz.ntmps42
     go_wp2
     repeat (go_quiet (fail);try go_wp2)
     go_ret
     exact ⟨zE,zI HI0.1,zH1 HB.1 (IsS115.ge HI0.1),zJ HK.1⟩
   ·rw [if_neg c5] at H
    exact absurd H (by simp)
  ·rw [if_neg c4] at H
   have c4b0:=decide_eq_false c4
   clear c4
   by_cases c8:a1=0
   ·rw [if_pos c8] at H
    exact absurd H (by simp)
   ·rw [if_neg c8] at H
    have c8b0:=zq3 c8
    have c8b1:=zq4 c8
    simp only [Option.some.injEq,Prod.mk.injEq] at H
    obtain ⟨rfl,rfl,rfl⟩:=H
    obtain ⟨ASz9_0,cSz9_0,HGz9,hgz9,HSz9_0⟩:=HI0.1
    have Z9_0:=cellS115_0 HGz9
    have Z9_1:=cellS115_1 HGz9
    have Z9_2:=cellS115_2 HGz9
    have V9_1:=blk_frozen HGz9 1
    have V9_2:=blk_frozen HGz9 2
    clear HGz9 hgz9
    go_enter Tryz.func42,Tryz.ntmps42
    go_wp2
    repeat (go_quiet (fail);try go_wp2)
    go_ret
    exact ⟨zE,zI HI0.1,zH1 HB.1 (IsS115.ge HI0.1),zJ HK.1⟩
def spec_l01Pick.f (s0_0:List Int) (s0_1:Int) (s0_2:Int) (l1:List Int):Option (Int×Int×Int):=(spec_l01Next.f s0_0 s0_1 s0_2 (l1.length:Int)).bind fun bt104=>(if 0≤bt104.1 then (if bt104.1<(l1.length:Int) then (some (rd l1 bt104.1,bt104.2.1,bt104.2.2)) else (none)) else (none))
theorem spec_l01Pick.calls (g:Nat) (s0_0:List Int) (s0_1:Int) (s0_2:Int) (A1:Option Addr) (c1:Nat) (l1:List Int) (r1:Int) (r2:Int) (r3:Int) (w0 w:World) (hI:IsS115 w0 w g s0_0 s0_1 s0_2) (hB:Below w0.heap.size w0 w) (hr1:Kd.C (Kd.int .i64) w A1 l1.length l1) (hc1:l1.length≤c1) (hf1:∀ ad,A1=some ad→0<l1.length→ad.block≠g) (h:spec_l01Pick.f s0_0 s0_1 s0_2 l1=some (r1,r2,r3)):
 Calls Tryz.prog 60 #[.pointer (some ⟨g,0,none⟩),.slice A1 l1.length c1] w fun e w'=>e=.returned (.int .i64 r1)∧IsS115 w0 w' g s0_0 r2 r3∧Below w0.heap.size w0 w'∧KeepBut w w' g none:=by
 have HR1:=Aside0.mk hr1
 have HC1:=Aside0.mk hc1
 clear hr1 hc1
 have HI0:=Aside0.mk hI
 have HK:=Aside0.mk (KeepBut.refl w g none)
 have HL:=Aside0.mk hB.size
 clear hI
 have HW0:=Aside0.mk hB.size
 have HB:=Aside0.mk hB
 clear hB
 have H:((spec_l01Next.f s0_0 s0_1 s0_2 (l1.length:Int)).bind fun bt104=>(if 0≤bt104.1 then (if bt104.1<(l1.length:Int) then (some (rd l1 bt104.1,bt104.2.1,bt104.2.2)) else (none)) else (none)))=some (r1,r2,r3):=h
 clear h
 obtain ⟨⟨t104,t105,t106⟩,A3,H⟩:=zb H;(try dsimp only at H)
 by_cases c4:0≤t104
 ·rw [if_pos c4] at H
  have c4b0:=decide_eq_true c4
  clear c4
  by_cases c5:t104<(l1.length:Int)
  ·rw [if_pos c5] at H
   have c5b0:=decide_eq_true c5
   clear c5
   simp only [Option.some.injEq,Prod.mk.injEq] at H
   obtain ⟨rfl,rfl,rfl⟩:=H
   go_enter Tryz.func60,Tryz.ntmps60
   go_wp2_with (first|((with_reducible refine gate_callee (f:=42) rfl ?_);refine zL (some 9) Tryz.func42 #[.pointer (some ⟨g,0,none⟩),.int .i64 (l1.length:Int)] ?_;(with_reducible refine (spec_l01Next.calls g s0_0 s0_1 s0_2 (l1.length:Int) t104 t105 t106 w0 _ ?side1 ?side2 A3.1).mono ?_);(case side1=>exact zI HI0.1);(case side2=>exact zH1 HB.1 (IsS115.ge HI0.1));rintro e w6 ⟨rfl,hi,hb,hk⟩;refine ⟨_,rfl,?_⟩;refine zA3 (KeepBut.trans (zJ HK.1) hk (.inl rfl)) (hb) (hi) ?_;clear HK HB HI0;intro HK HB HI0;(try clear hb);(try clear hk);(try clear hi);have p107:0≤(t104:Int):=zo;have q107:t104<(l1.length:Int):=zo;obtain ⟨ad107,e107,hx107_0⟩:=Kd.at_int HR1.1 t104 p107 q107;cases e107;replace hx107_0:=keep_cell HK.1 hx107_0 (by first|(rw [add_block];exact hf1 _ rfl (by omega))|exact hf1 _ rfl (by omega)|exact hf1 ad107 rfl (by omega));replace p107:=eq_true p107;replace q107:=eq_true q107))
   go_ret
   exact ⟨zE,zI HI0.1,zH1 HB.1 (IsS115.ge HI0.1),zJ HK.1⟩
  ·rw [if_neg c5] at H
   exact absurd H (by simp)
 ·rw [if_neg c4] at H
  exact absurd H (by simp)
def spec_l05Bad.f (s0_0:List Int) (s0_1:Int) (s0_2:Int) (a1_0:Int) (a1_1:Int) (a1_2:Int) (a1_3:Int):Option (Int×Int×Int×Int×Int×Int):=(spec_l01Next.f s0_0 s0_1 s0_2 40).bind fun bt110=>(if bt110.1=0 then ((spec_l01Pick.f s0_0 bt110.2.1 bt110.2.2 (([0,9,(-1),1099511627776]:List Int))).bind fun bt116=>(some (bt116.1,a1_1,a1_2,a1_3,bt116.2.1,bt116.2.2))) else (if bt110.1=1 then ((spec_l01Pick.f s0_0 bt110.2.1 bt110.2.2 (([(-1),268435456,4611686018427387904]:List Int))).bind fun bt122=>(some (a1_0,bt122.1,a1_2,a1_3,bt122.2.1,bt122.2.2))) else (if bt110.1=2 then ((spec_l01Pick.f s0_0 bt110.2.1 bt110.2.2 (([(-1),256,a1_3,4611686018427387904]:List Int))).bind fun bt128=>(some (a1_0,a1_1,bt128.1,a1_3,bt128.2.1,bt128.2.2))) else (if bt110.1=3 then ((spec_l01Pick.f s0_0 bt110.2.1 bt110.2.2 (([(-1),256,a1_2,4611686018427387904]:List Int))).bind fun bt134=>(some (a1_0,a1_1,a1_2,bt134.1,bt134.2.1,bt134.2.2))) else (some (a1_0,a1_1,a1_2,a1_3,bt110.2.1,bt110.2.2))))))
theorem spec_l05Bad.calls (g:Nat) (s0_0:List Int) (s0_1:Int) (s0_2:Int) (a1_0:Int) (a1_1:Int) (a1_2:Int) (a1_3:Int) (r1:Int) (r2:Int) (r3:Int) (r4:Int) (r5:Int) (r6:Int) (w0 w:World) (hI:IsS115 w0 w g s0_0 s0_1 s0_2) (hB:Below w0.heap.size w0 w) (h:spec_l05Bad.f s0_0 s0_1 s0_2 a1_0 a1_1 a1_2 a1_3=some (r1,r2,r3,r4,r5,r6)):
 Calls Tryz.prog 43 #[.pointer (some ⟨g,0,none⟩),.agg #[.int .i64 a1_0,.int .i64 a1_1,.int .i64 a1_2,.int .i64 a1_3]] w fun e w'=>e=.returned (.agg #[.int .i64 r1,.int .i64 r2,.int .i64 r3,.int .i64 r4])∧IsS115 w0 w' g s0_0 r5 r6∧Below w0.heap.size w0 w'∧KeepBut w w' g none:=by
 have hu25:=Tryz.underlying25
 have HI0:=Aside0.mk hI
 have HK:=Aside0.mk (KeepBut.refl w g none)
 have HL:=Aside0.mk hB.size
 clear hI
 have HW0:=Aside0.mk hB.size
 have HB:=Aside0.mk hB
 clear hB
 have H:((spec_l01Next.f s0_0 s0_1 s0_2 40).bind fun bt110=>(if bt110.1=0 then ((spec_l01Pick.f s0_0 bt110.2.1 bt110.2.2 (([0,9,(-1),1099511627776]:List Int))).bind fun bt116=>(some (bt116.1,a1_1,a1_2,a1_3,bt116.2.1,bt116.2.2))) else (if bt110.1=1 then ((spec_l01Pick.f s0_0 bt110.2.1 bt110.2.2 (([(-1),268435456,4611686018427387904]:List Int))).bind fun bt122=>(some (a1_0,bt122.1,a1_2,a1_3,bt122.2.1,bt122.2.2))) else (if bt110.1=2 then ((spec_l01Pick.f s0_0 bt110.2.1 bt110.2.2 (([(-1),256,a1_3,4611686018427387904]:List Int))).bind fun bt128=>(some (a1_0,a1_1,bt128.1,a1_3,bt128.2.1,bt128.2.2))) else (if bt110.1=3 then ((spec_l01Pick.f s0_0 bt110.2.1 bt110.2.2 (([(-1),256,a1_2,4611686018427387904]:List Int))).bind fun bt134=>(some (a1_0,a1_1,a1_2,bt134.1,bt134.2.1,bt134.2.2))) else (some (a1_0,a1_1,a1_2,a1_3,bt110.2.1,bt110.2.2)))))))=some (r1,r2,r3,r4,r5,r6):=h
 clear h
 obtain ⟨⟨t110,t111,t112⟩,A3,H⟩:=zb H;(try dsimp only at H)
 by_cases c4:t110=0
 ·rw [if_pos c4] at H
  have c4b0:=zq1 c4
  have c4b1:=zq2 c4
  clear c4
  obtain ⟨y113,hy113⟩:∃ y_:List Int,y_=(([0,9,(-1),1099511627776]:List Int)):=⟨_,rfl⟩
  replace H:((spec_l01Pick.f s0_0 t111 t112 y113).bind fun bt116=>(some (bt116.1,a1_1,a1_2,a1_3,bt116.2.1,bt116.2.2)))=some (r1,r2,r3,r4,r5,r6):=by first|(rw [hy113];with_reducible exact H)|(have H2_:=(Option.bind_some _ _).symm.trans H;rw [hy113];with_reducible exact H2_)|(have H2_:=(Option.bind_some _ _).symm.trans H;with_reducible exact H2_)|with_reducible exact H|(rw [hy113];exact H)|exact H
  have Ny113:=Aside0.mk hy113
  clear hy113
  obtain ⟨⟨t116,t117,t118⟩,A5,H⟩:=zb H;(try dsimp only at H)
  simp only [Option.some.injEq,Prod.mk.injEq] at H
  obtain ⟨rfl,rfl,rfl,rfl,rfl,rfl⟩:=H
  go_enter Tryz.func43,Tryz.ntmps43
  go_wp2_with (first|((with_reducible refine gate_dst (N:=3) rfl ?_);refine zX 3 #[.int .i64 a1_0,.int .i64 a1_1,.int .i64 a1_2,.int .i64 a1_3] 25 ?_;intro gb108 hg w6 hbox hb;refine zA8 (IsS115.below (zI HI0.1) hb) (KeepBut.trans (zJ HK.1) (KeepBut.of_below hb g none) (.inl rfl)) (below_step (zH1 HB.1 (IsS115.ge HI0.1)) hb) (hbox) ((by rw [hg];exact (keep_size (w:=w) (g:=g) (row:=none) (zJ HK.1)):w.heap.size≤gb108)) ((Nat.le_trans HW0.1 (by rw [hg];exact (keep_size (w:=w) (g:=g) (row:=none) (zJ HK.1)):w.heap.size≤gb108):w0.heap.size≤gb108)) ((zl hg (IsS115.lt (show IsS115 w0 _ g s0_0 s0_1 s0_2 from zI HI0.1)):g≠gb108)) ((zg hg (IsS115.lt (show IsS115 w0 _ g s0_0 s0_1 s0_2 from zI HI0.1)):gb108≠g)) ?_;clear HI0 HK HB;intro HI0 HK HB BK108 GW108 GE108 NB0_108 NB108_0;clear hb hbox hg)|((with_reducible refine gate_dst (N:=4) rfl ?_);refine zX 4 #[.int .i64 0,.int .i64 0,.int .i64 0,.int .i64 0] 25 ?_;intro gb109 hg w7 hbox hb;refine zA11 (IsS115.below (zI1 HI0.1 NB0_108.1) hb) (zY BK108.1 hb) (KeepBut.trans (zJ1 HK.1 GW108.1) (KeepBut.of_below hb g none) (.inl rfl)) (below_step (zH2 HB.1 (IsS115.ge HI0.1) GE108.1) hb) (hbox) ((by rw [hg];exact (keep_size (w:=w) (g:=g) (row:=none) (zJ1 HK.1 GW108.1)):w.heap.size≤gb109)) ((Nat.le_trans HW0.1 (by rw [hg];exact (keep_size (w:=w) (g:=g) (row:=none) (zJ1 HK.1 GW108.1)):w.heap.size≤gb109):w0.heap.size≤gb109)) ((zl hg (blk_lt (g:=gb108) (o:=.cells #[.int .i64 a1_0,.int .i64 a1_1,.int .i64 a1_2,.int .i64 a1_3] 25 (0,0)) (zB BK108.1)):gb108≠gb109)) ((zg hg (blk_lt (g:=gb108) (o:=.cells #[.int .i64 a1_0,.int .i64 a1_1,.int .i64 a1_2,.int .i64 a1_3] 25 (0,0)) (zB BK108.1)):gb109≠gb108)) ((zl hg (IsS115.lt (show IsS115 w0 _ g s0_0 s0_1 s0_2 from zI1 HI0.1 NB0_108.1)):g≠gb109)) ((zg hg (IsS115.lt (show IsS115 w0 _ g s0_0 s0_1 s0_2 from zI1 HI0.1 NB0_108.1)):gb109≠g)) ?_;clear HI0 BK108 HK HB;intro HI0 BK108 HK HB BK109 GW109 GE109 NB108_109 NB109_108 NB0_109 NB109_0;clear hb hbox hg)|((with_reducible refine gate_callee (f:=42) rfl ?_);refine zL (some 6) Tryz.func42 #[.pointer (some ⟨g,0,none⟩),.int .i64 40] ?_;(with_reducible refine (spec_l01Next.calls g s0_0 s0_1 s0_2 40 t110 t111 t112 w0 _ ?side1 ?side2 A3.1).mono ?_);(case side1=>exact zI2 HI0.1 NB0_108.1 NB0_109.1);(case side2=>exact zH3 HB.1 (IsS115.ge HI0.1) GE108.1 GE109.1);rintro e w8 ⟨rfl,hi,hb,hk⟩;refine ⟨_,rfl,?_⟩;refine zA5 (zYk hk BK108.1 NB108_0.1) (zYk hk BK109.1 NB109_0.1) (KeepBut.trans (zJ2 HK.1 GW108.1 GW109.1) hk (.inl rfl)) (hb) (hi) ?_;clear BK108 BK109 HK HB HI0;intro BK108 BK109 HK HB HI0;(try clear hb);(try clear hk);(try clear hi))|((with_reducible refine gate_dst (N:=10) rfl ?_);refine Kd.R_lit (Kd.int .i64) _ 2 ?hg (N:=10) ?hd (xs:=([0,9,(-1),1099511627776]:List Int)) (inner:=[.int .i64 0,.int .i64 9,.int .i64 (-1),.int .i64 1099511627776]) (ok:=fun _=>True) (okp:=fun _=>True) ?hr ?hp (fun _ hk=>hk) trivial (Below.refl _ _) (Nat.le_refl _) (by simp) ?_;(case hd=>rfl);(case hg=>rfl);(case hr=>first|(go_simp;done)|(go_simp;rfl));(case hp=>exact (Reps.one (show Kd.M (Kd.int .i64) _ _ _ 0 [.int .i64 0] from rfl) (Reps.one (show Kd.M (Kd.int .i64) _ _ _ 9 [.int .i64 9] from rfl) (Reps.one (show Kd.M (Kd.int .i64) _ _ _ (-1) [.int .i64 (-1)] from rfl) (Reps.one (show Kd.M (Kd.int .i64) _ _ _ 1099511627776 [.int .i64 1099511627776] from rfl) (Reps.none _ _))))));intro v114 w9 ho10 hb hg_ hnew_;clear hg_ hnew_;(first|rw [← Ny113.1] at ho10|(simp only [Int.reduceToNat] at ho10;rw [← Ny113.1] at ho10));refine zA6 (Kd.R_lower ho10 (keep_size (w:=w) (g:=g) (row:=none) (zJ2 HK.1 GW108.1 GW109.1))) (IsS115.below (zI2 HI0.1 NB0_108.1 NB0_109.1) hb) (zY BK108.1 hb) (zY BK109.1 hb) (KeepBut.trans (zJ2 HK.1 GW108.1 GW109.1) (KeepBut.of_below hb g none) (.inl rfl)) (below_step (zH3 HB.1 (IsS115.ge HI0.1) GE108.1 GE109.1) hb) ?_;clear HI0 BK108 BK109 HK HB;intro HO115 HI0 BK108 BK109 HK HB;clear hb ho10;obtain ⟨Ao11,co11,eo11⟩:=Kd.R_slice HO115.1;subst eo11)|((with_reducible refine gate_callee (f:=60) rfl ?_);refine zL (some 11) Tryz.func60 #[.pointer (some ⟨g,0,none⟩),.slice Ao11 y113.length co11] ?_;(with_reducible refine (spec_l01Pick.calls g s0_0 t111 t112 _ _ y113 t116 t117 t118 w0 _ ?side1 ?side2 ?side3 ?side4 ?side5 A5.1).mono ?_);(case side1=>exact zI2 HI0.1 NB0_108.1 NB0_109.1);(case side2=>exact zH3 HB.1 (IsS115.ge HI0.1) GE108.1 GE109.1);(case side3=>repeat (first|exact (Kd.R_reads' HO115.1).2.2|(with_reducible refine Kd.C_alloc ?_ _)|(with_reducible refine Kd.C_drewN ?_ _)|(with_reducible refine Kd.C_drew ?_)));(case side4=>exact (Kd.R_reads' HO115.1).2.1);(case side5=>exact far_slice (IsS115.own_ne HI0.1 HO115.1 (by decide)));rintro e w12 ⟨rfl,hi,hb,hk⟩;refine ⟨_,rfl,?_⟩;refine zA6 (zYk hk BK108.1 NB108_0.1) (zYk hk BK109.1 NB109_0.1) (Kd.R_mono (Kd.R_keep (IsS115.apart (show IsS115 w0 _ g s0_0 t111 t112 from zI2 HI0.1 NB0_108.1 NB0_109.1) (zR HO115.1) (by decide)) hk (fun _ h=>h.2)) (fun _ h=>h.1)) (KeepBut.trans (zJ2 HK.1 GW108.1 GW109.1) hk (.inl rfl)) (hb) (hi) ?_;clear BK108 BK109 HO115 HK HB HI0;intro BK108 BK109 HO115 HK HB HI0;(try clear hb);(try clear hk);(try clear hi);have hnb13:=NB108_109.1;have hnc13:=NB109_108.1;have hnb14:=NB108_0.1;have hnc14:=NB0_108.1;obtain ⟨Z15_0,Z15_1,Z15_2,Z15_3⟩:=zc4 BK108;obtain ⟨V15_0,V15_1,V15_2,V15_3⟩:=zf4 BK108;have hnb16:=NB109_0.1;have hnc16:=NB0_109.1;obtain ⟨Z17_0,Z17_1,Z17_2,Z17_3⟩:=zc4 BK109;obtain ⟨V17_0,V17_1,V17_2,V17_3⟩:=zf4 BK109))
  refine bodyPost_ret (results_cell_row rfl _ _ gb109 25 #[.int .i64 t116,.int .i64 a1_1,.int .i64 a1_2,.int .i64 a1_3] (0,0) _ rfl (zQ1 BK109.1 NB109_108.1) Tryz.underlying25 rfl (by kernel_rfl)) rfl ?_
  exact ⟨zE,zI2 HI0.1 NB0_108.1 NB0_109.1,zH3 HB.1 (IsS115.ge HI0.1) GE108.1 GE109.1,zJ2 HK.1 GW108.1 GW109.1⟩
 ·rw [if_neg c4] at H
  have c4b0:=zq3 c4
  have c4b1:=zq4 c4
  by_cases c18:t110=1
  ·rw [if_pos c18] at H
   have c18b0:=zq1 c18
   have c18b1:=zq2 c18
   clear c18
   obtain ⟨y119,hy119⟩:∃ y_:List Int,y_=(([(-1),268435456,4611686018427387904]:List Int)):=⟨_,rfl⟩
   replace H:((spec_l01Pick.f s0_0 t111 t112 y119).bind fun bt122=>(some (a1_0,bt122.1,a1_2,a1_3,bt122.2.1,bt122.2.2)))=some (r1,r2,r3,r4,r5,r6):=by first|(rw [hy119];with_reducible exact H)|(have H2_:=(Option.bind_some _ _).symm.trans H;rw [hy119];with_reducible exact H2_)|(have H2_:=(Option.bind_some _ _).symm.trans H;with_reducible exact H2_)|with_reducible exact H|(rw [hy119];exact H)|exact H
   have Ny119:=Aside0.mk hy119
   clear hy119
   obtain ⟨⟨t122,t123,t124⟩,A19,H⟩:=zb H;(try dsimp only at H)
   simp only [Option.some.injEq,Prod.mk.injEq] at H
   obtain ⟨rfl,rfl,rfl,rfl,rfl,rfl⟩:=H
   go_enter Tryz.func43,Tryz.ntmps43
   go_wp2_with (first|((with_reducible refine gate_dst (N:=3) rfl ?_);refine zX 3 #[.int .i64 a1_0,.int .i64 a1_1,.int .i64 a1_2,.int .i64 a1_3] 25 ?_;intro gb108 hg w20 hbox hb;refine zA8 (IsS115.below (zI HI0.1) hb) (KeepBut.trans (zJ HK.1) (KeepBut.of_below hb g none) (.inl rfl)) (below_step (zH1 HB.1 (IsS115.ge HI0.1)) hb) (hbox) ((by rw [hg];exact (keep_size (w:=w) (g:=g) (row:=none) (zJ HK.1)):w.heap.size≤gb108)) ((Nat.le_trans HW0.1 (by rw [hg];exact (keep_size (w:=w) (g:=g) (row:=none) (zJ HK.1)):w.heap.size≤gb108):w0.heap.size≤gb108)) ((zl hg (IsS115.lt (show IsS115 w0 _ g s0_0 s0_1 s0_2 from zI HI0.1)):g≠gb108)) ((zg hg (IsS115.lt (show IsS115 w0 _ g s0_0 s0_1 s0_2 from zI HI0.1)):gb108≠g)) ?_;clear HI0 HK HB;intro HI0 HK HB BK108 GW108 GE108 NB0_108 NB108_0;clear hb hbox hg)|((with_reducible refine gate_dst (N:=4) rfl ?_);refine zX 4 #[.int .i64 0,.int .i64 0,.int .i64 0,.int .i64 0] 25 ?_;intro gb109 hg w21 hbox hb;refine zA11 (IsS115.below (zI1 HI0.1 NB0_108.1) hb) (zY BK108.1 hb) (KeepBut.trans (zJ1 HK.1 GW108.1) (KeepBut.of_below hb g none) (.inl rfl)) (below_step (zH2 HB.1 (IsS115.ge HI0.1) GE108.1) hb) (hbox) ((by rw [hg];exact (keep_size (w:=w) (g:=g) (row:=none) (zJ1 HK.1 GW108.1)):w.heap.size≤gb109)) ((Nat.le_trans HW0.1 (by rw [hg];exact (keep_size (w:=w) (g:=g) (row:=none) (zJ1 HK.1 GW108.1)):w.heap.size≤gb109):w0.heap.size≤gb109)) ((zl hg (blk_lt (g:=gb108) (o:=.cells #[.int .i64 a1_0,.int .i64 a1_1,.int .i64 a1_2,.int .i64 a1_3] 25 (0,0)) (zB BK108.1)):gb108≠gb109)) ((zg hg (blk_lt (g:=gb108) (o:=.cells #[.int .i64 a1_0,.int .i64 a1_1,.int .i64 a1_2,.int .i64 a1_3] 25 (0,0)) (zB BK108.1)):gb109≠gb108)) ((zl hg (IsS115.lt (show IsS115 w0 _ g s0_0 s0_1 s0_2 from zI1 HI0.1 NB0_108.1)):g≠gb109)) ((zg hg (IsS115.lt (show IsS115 w0 _ g s0_0 s0_1 s0_2 from zI1 HI0.1 NB0_108.1)):gb109≠g)) ?_;clear HI0 BK108 HK HB;intro HI0 BK108 HK HB BK109 GW109 GE109 NB108_109 NB109_108 NB0_109 NB109_0;clear hb hbox hg)|((with_reducible refine gate_callee (f:=42) rfl ?_);refine zL (some 6) Tryz.func42 #[.pointer (some ⟨g,0,none⟩),.int .i64 40] ?_;(with_reducible refine (spec_l01Next.calls g s0_0 s0_1 s0_2 40 t110 t111 t112 w0 _ ?side1 ?side2 A3.1).mono ?_);(case side1=>exact zI2 HI0.1 NB0_108.1 NB0_109.1);(case side2=>exact zH3 HB.1 (IsS115.ge HI0.1) GE108.1 GE109.1);rintro e w22 ⟨rfl,hi,hb,hk⟩;refine ⟨_,rfl,?_⟩;refine zA5 (zYk hk BK108.1 NB108_0.1) (zYk hk BK109.1 NB109_0.1) (KeepBut.trans (zJ2 HK.1 GW108.1 GW109.1) hk (.inl rfl)) (hb) (hi) ?_;clear BK108 BK109 HK HB HI0;intro BK108 BK109 HK HB HI0;(try clear hb);(try clear hk);(try clear hi))|((with_reducible refine gate_dst (N:=16) rfl ?_);refine Kd.R_lit (Kd.int .i64) _ 2 ?hg (N:=16) ?hd (xs:=([(-1),268435456,4611686018427387904]:List Int)) (inner:=[.int .i64 (-1),.int .i64 268435456,.int .i64 4611686018427387904]) (ok:=fun _=>True) (okp:=fun _=>True) ?hr ?hp (fun _ hk=>hk) trivial (Below.refl _ _) (Nat.le_refl _) (by simp) ?_;(case hd=>rfl);(case hg=>rfl);(case hr=>first|(go_simp;done)|(go_simp;rfl));(case hp=>exact (Reps.one (show Kd.M (Kd.int .i64) _ _ _ (-1) [.int .i64 (-1)] from rfl) (Reps.one (show Kd.M (Kd.int .i64) _ _ _ 268435456 [.int .i64 268435456] from rfl) (Reps.one (show Kd.M (Kd.int .i64) _ _ _ 4611686018427387904 [.int .i64 4611686018427387904] from rfl) (Reps.none _ _)))));intro v120 w23 ho24 hb hg_ hnew_;clear hg_ hnew_;(first|rw [← Ny119.1] at ho24|(simp only [Int.reduceToNat] at ho24;rw [← Ny119.1] at ho24));refine zA6 (Kd.R_lower ho24 (keep_size (w:=w) (g:=g) (row:=none) (zJ2 HK.1 GW108.1 GW109.1))) (IsS115.below (zI2 HI0.1 NB0_108.1 NB0_109.1) hb) (zY BK108.1 hb) (zY BK109.1 hb) (KeepBut.trans (zJ2 HK.1 GW108.1 GW109.1) (KeepBut.of_below hb g none) (.inl rfl)) (below_step (zH3 HB.1 (IsS115.ge HI0.1) GE108.1 GE109.1) hb) ?_;clear HI0 BK108 BK109 HK HB;intro HO121 HI0 BK108 BK109 HK HB;clear hb ho24;obtain ⟨Ao25,co25,eo25⟩:=Kd.R_slice HO121.1;subst eo25)|((with_reducible refine gate_callee (f:=60) rfl ?_);refine zL (some 17) Tryz.func60 #[.pointer (some ⟨g,0,none⟩),.slice Ao25 y119.length co25] ?_;(with_reducible refine (spec_l01Pick.calls g s0_0 t111 t112 _ _ y119 t122 t123 t124 w0 _ ?side1 ?side2 ?side3 ?side4 ?side5 A19.1).mono ?_);(case side1=>exact zI2 HI0.1 NB0_108.1 NB0_109.1);(case side2=>exact zH3 HB.1 (IsS115.ge HI0.1) GE108.1 GE109.1);(case side3=>repeat (first|exact (Kd.R_reads' HO121.1).2.2|(with_reducible refine Kd.C_alloc ?_ _)|(with_reducible refine Kd.C_drewN ?_ _)|(with_reducible refine Kd.C_drew ?_)));(case side4=>exact (Kd.R_reads' HO121.1).2.1);(case side5=>exact far_slice (IsS115.own_ne HI0.1 HO121.1 (by decide)));rintro e w26 ⟨rfl,hi,hb,hk⟩;refine ⟨_,rfl,?_⟩;refine zA6 (zYk hk BK108.1 NB108_0.1) (zYk hk BK109.1 NB109_0.1) (Kd.R_mono (Kd.R_keep (IsS115.apart (show IsS115 w0 _ g s0_0 t111 t112 from zI2 HI0.1 NB0_108.1 NB0_109.1) (zR HO121.1) (by decide)) hk (fun _ h=>h.2)) (fun _ h=>h.1)) (KeepBut.trans (zJ2 HK.1 GW108.1 GW109.1) hk (.inl rfl)) (hb) (hi) ?_;clear BK108 BK109 HO121 HK HB HI0;intro BK108 BK109 HO121 HK HB HI0;(try clear hb);(try clear hk);(try clear hi);have hnb27:=NB108_109.1;have hnc27:=NB109_108.1;have hnb28:=NB108_0.1;have hnc28:=NB0_108.1;obtain ⟨Z29_0,Z29_1,Z29_2,Z29_3⟩:=zc4 BK108;obtain ⟨V29_0,V29_1,V29_2,V29_3⟩:=zf4 BK108;have hnb30:=NB109_0.1;have hnc30:=NB0_109.1;obtain ⟨Z31_0,Z31_1,Z31_2,Z31_3⟩:=zc4 BK109;obtain ⟨V31_0,V31_1,V31_2,V31_3⟩:=zf4 BK109))
   refine bodyPost_ret (results_cell_row rfl _ _ gb109 25 #[.int .i64 a1_0,.int .i64 t122,.int .i64 a1_2,.int .i64 a1_3] (0,0) _ rfl (zQ1 BK109.1 NB109_108.1) Tryz.underlying25 rfl (by kernel_rfl)) rfl ?_
   exact ⟨zE,zI2 HI0.1 NB0_108.1 NB0_109.1,zH3 HB.1 (IsS115.ge HI0.1) GE108.1 GE109.1,zJ2 HK.1 GW108.1 GW109.1⟩
  ·rw [if_neg c18] at H
   have c18b0:=zq3 c18
   have c18b1:=zq4 c18
   by_cases c32:t110=2
   ·rw [if_pos c32] at H
    have c32b0:=zq1 c32
    have c32b1:=zq2 c32
    clear c32
    obtain ⟨y125,hy125⟩:∃ y_:List Int,y_=(([(-1),256,a1_3,4611686018427387904]:List Int)):=⟨_,rfl⟩
    replace H:((spec_l01Pick.f s0_0 t111 t112 y125).bind fun bt128=>(some (a1_0,a1_1,bt128.1,a1_3,bt128.2.1,bt128.2.2)))=some (r1,r2,r3,r4,r5,r6):=by first|(rw [hy125];with_reducible exact H)|(have H2_:=(Option.bind_some _ _).symm.trans H;rw [hy125];with_reducible exact H2_)|(have H2_:=(Option.bind_some _ _).symm.trans H;with_reducible exact H2_)|with_reducible exact H|(rw [hy125];exact H)|exact H
    have Ny125:=Aside0.mk hy125
    clear hy125
    obtain ⟨⟨t128,t129,t130⟩,A33,H⟩:=zb H;(try dsimp only at H)
    simp only [Option.some.injEq,Prod.mk.injEq] at H
    obtain ⟨rfl,rfl,rfl,rfl,rfl,rfl⟩:=H
    go_enter Tryz.func43,Tryz.ntmps43
    go_wp2_with (first|((with_reducible refine gate_dst (N:=3) rfl ?_);refine zX 3 #[.int .i64 a1_0,.int .i64 a1_1,.int .i64 a1_2,.int .i64 a1_3] 25 ?_;intro gb108 hg w34 hbox hb;refine zA8 (IsS115.below (zI HI0.1) hb) (KeepBut.trans (zJ HK.1) (KeepBut.of_below hb g none) (.inl rfl)) (below_step (zH1 HB.1 (IsS115.ge HI0.1)) hb) (hbox) ((by rw [hg];exact (keep_size (w:=w) (g:=g) (row:=none) (zJ HK.1)):w.heap.size≤gb108)) ((Nat.le_trans HW0.1 (by rw [hg];exact (keep_size (w:=w) (g:=g) (row:=none) (zJ HK.1)):w.heap.size≤gb108):w0.heap.size≤gb108)) ((zl hg (IsS115.lt (show IsS115 w0 _ g s0_0 s0_1 s0_2 from zI HI0.1)):g≠gb108)) ((zg hg (IsS115.lt (show IsS115 w0 _ g s0_0 s0_1 s0_2 from zI HI0.1)):gb108≠g)) ?_;clear HI0 HK HB;intro HI0 HK HB BK108 GW108 GE108 NB0_108 NB108_0;clear hb hbox hg)|((with_reducible refine gate_dst (N:=4) rfl ?_);refine zX 4 #[.int .i64 0,.int .i64 0,.int .i64 0,.int .i64 0] 25 ?_;intro gb109 hg w35 hbox hb;refine zA11 (IsS115.below (zI1 HI0.1 NB0_108.1) hb) (zY BK108.1 hb) (KeepBut.trans (zJ1 HK.1 GW108.1) (KeepBut.of_below hb g none) (.inl rfl)) (below_step (zH2 HB.1 (IsS115.ge HI0.1) GE108.1) hb) (hbox) ((by rw [hg];exact (keep_size (w:=w) (g:=g) (row:=none) (zJ1 HK.1 GW108.1)):w.heap.size≤gb109)) ((Nat.le_trans HW0.1 (by rw [hg];exact (keep_size (w:=w) (g:=g) (row:=none) (zJ1 HK.1 GW108.1)):w.heap.size≤gb109):w0.heap.size≤gb109)) ((zl hg (blk_lt (g:=gb108) (o:=.cells #[.int .i64 a1_0,.int .i64 a1_1,.int .i64 a1_2,.int .i64 a1_3] 25 (0,0)) (zB BK108.1)):gb108≠gb109)) ((zg hg (blk_lt (g:=gb108) (o:=.cells #[.int .i64 a1_0,.int .i64 a1_1,.int .i64 a1_2,.int .i64 a1_3] 25 (0,0)) (zB BK108.1)):gb109≠gb108)) ((zl hg (IsS115.lt (show IsS115 w0 _ g s0_0 s0_1 s0_2 from zI1 HI0.1 NB0_108.1)):g≠gb109)) ((zg hg (IsS115.lt (show IsS115 w0 _ g s0_0 s0_1 s0_2 from zI1 HI0.1 NB0_108.1)):gb109≠g)) ?_;clear HI0 BK108 HK HB;intro HI0 BK108 HK HB BK109 GW109 GE109 NB108_109 NB109_108 NB0_109 NB109_0;clear hb hbox hg)|((with_reducible refine gate_callee (f:=42) rfl ?_);refine zL (some 6) Tryz.func42 #[.pointer (some ⟨g,0,none⟩),.int .i64 40] ?_;(with_reducible refine (spec_l01Next.calls g s0_0 s0_1 s0_2 40 t110 t111 t112 w0 _ ?side1 ?side2 A3.1).mono ?_);(case side1=>exact zI2 HI0.1 NB0_108.1 NB0_109.1);(case side2=>exact zH3 HB.1 (IsS115.ge HI0.1) GE108.1 GE109.1);rintro e w36 ⟨rfl,hi,hb,hk⟩;refine ⟨_,rfl,?_⟩;refine zA5 (zYk hk BK108.1 NB108_0.1) (zYk hk BK109.1 NB109_0.1) (KeepBut.trans (zJ2 HK.1 GW108.1 GW109.1) hk (.inl rfl)) (hb) (hi) ?_;clear BK108 BK109 HK HB HI0;intro BK108 BK109 HK HB HI0;(try clear hb);(try clear hk);(try clear hi);have hnb37:=NB108_109.1;have hnc37:=NB109_108.1;have hnb38:=NB108_0.1;have hnc38:=NB0_108.1;obtain ⟨Z39_0,Z39_1,Z39_2,Z39_3⟩:=zc4 BK108;obtain ⟨V39_0,V39_1,V39_2,V39_3⟩:=zf4 BK108)|((with_reducible refine gate_dst (N:=24) rfl ?_);refine Kd.R_lit (Kd.int .i64) _ 2 ?hg (N:=24) ?hd (xs:=([(-1),256,a1_3,4611686018427387904]:List Int)) (inner:=[.int .i64 (-1),.int .i64 256,.int .i64 a1_3,.int .i64 4611686018427387904]) (ok:=fun _=>True) (okp:=fun _=>True) ?hr ?hp (fun _ hk=>hk) trivial (Below.refl _ _) (Nat.le_refl _) (by simp) ?_;(case hd=>rfl);(case hg=>rfl);(case hr=>first|(go_simp;done)|(go_simp;rfl));(case hp=>exact (Reps.one (show Kd.M (Kd.int .i64) _ _ _ (-1) [.int .i64 (-1)] from rfl) (Reps.one (show Kd.M (Kd.int .i64) _ _ _ 256 [.int .i64 256] from rfl) (Reps.one (show Kd.M (Kd.int .i64) _ _ _ a1_3 [.int .i64 a1_3] from rfl) (Reps.one (show Kd.M (Kd.int .i64) _ _ _ 4611686018427387904 [.int .i64 4611686018427387904] from rfl) (Reps.none _ _))))));intro v126 w40 ho41 hb hg_ hnew_;clear hg_ hnew_;(first|rw [← Ny125.1] at ho41|(simp only [Int.reduceToNat] at ho41;rw [← Ny125.1] at ho41));refine zA6 (Kd.R_lower ho41 (keep_size (w:=w) (g:=g) (row:=none) (zJ2 HK.1 GW108.1 GW109.1))) (IsS115.below (zI2 HI0.1 NB0_108.1 NB0_109.1) hb) (zY BK108.1 hb) (zY BK109.1 hb) (KeepBut.trans (zJ2 HK.1 GW108.1 GW109.1) (KeepBut.of_below hb g none) (.inl rfl)) (below_step (zH3 HB.1 (IsS115.ge HI0.1) GE108.1 GE109.1) hb) ?_;clear HI0 BK108 BK109 HK HB;intro HO127 HI0 BK108 BK109 HK HB;clear hb ho41;obtain ⟨Ao42,co42,eo42⟩:=Kd.R_slice HO127.1;subst eo42)|((with_reducible refine gate_callee (f:=60) rfl ?_);refine zL (some 25) Tryz.func60 #[.pointer (some ⟨g,0,none⟩),.slice Ao42 y125.length co42] ?_;(with_reducible refine (spec_l01Pick.calls g s0_0 t111 t112 _ _ y125 t128 t129 t130 w0 _ ?side1 ?side2 ?side3 ?side4 ?side5 A33.1).mono ?_);(case side1=>exact zI2 HI0.1 NB0_108.1 NB0_109.1);(case side2=>exact zH3 HB.1 (IsS115.ge HI0.1) GE108.1 GE109.1);(case side3=>repeat (first|exact (Kd.R_reads' HO127.1).2.2|(with_reducible refine Kd.C_alloc ?_ _)|(with_reducible refine Kd.C_drewN ?_ _)|(with_reducible refine Kd.C_drew ?_)));(case side4=>exact (Kd.R_reads' HO127.1).2.1);(case side5=>exact far_slice (IsS115.own_ne HI0.1 HO127.1 (by decide)));rintro e w43 ⟨rfl,hi,hb,hk⟩;refine ⟨_,rfl,?_⟩;refine zA6 (zYk hk BK108.1 NB108_0.1) (zYk hk BK109.1 NB109_0.1) (Kd.R_mono (Kd.R_keep (IsS115.apart (show IsS115 w0 _ g s0_0 t111 t112 from zI2 HI0.1 NB0_108.1 NB0_109.1) (zR HO127.1) (by decide)) hk (fun _ h=>h.2)) (fun _ h=>h.1)) (KeepBut.trans (zJ2 HK.1 GW108.1 GW109.1) hk (.inl rfl)) (hb) (hi) ?_;clear BK108 BK109 HO127 HK HB HI0;intro BK108 BK109 HO127 HK HB HI0;(try clear hb);(try clear hk);(try clear hi);obtain ⟨Z44_0,Z44_1,Z44_2,Z44_3⟩:=zc4 BK108;obtain ⟨V44_0,V44_1,V44_2,V44_3⟩:=zf4 BK108;have hnb45:=NB109_0.1;have hnc45:=NB0_109.1;obtain ⟨Z46_0,Z46_1,Z46_2,Z46_3⟩:=zc4 BK109;obtain ⟨V46_0,V46_1,V46_2,V46_3⟩:=zf4 BK109))
    refine bodyPost_ret (results_cell_row rfl _ _ gb109 25 #[.int .i64 a1_0,.int .i64 a1_1,.int .i64 t128,.int .i64 a1_3] (0,0) _ rfl (zQ1 BK109.1 NB109_108.1) Tryz.underlying25 rfl (by kernel_rfl)) rfl ?_
    exact ⟨zE,zI2 HI0.1 NB0_108.1 NB0_109.1,zH3 HB.1 (IsS115.ge HI0.1) GE108.1 GE109.1,zJ2 HK.1 GW108.1 GW109.1⟩
   ·rw [if_neg c32] at H
    have c32b0:=zq3 c32
    have c32b1:=zq4 c32
    by_cases c47:t110=3
    ·rw [if_pos c47] at H
     have c47b0:=zq1 c47
     have c47b1:=zq2 c47
     clear c47
     obtain ⟨y131,hy131⟩:∃ y_:List Int,y_=(([(-1),256,a1_2,4611686018427387904]:List Int)):=⟨_,rfl⟩
     replace H:((spec_l01Pick.f s0_0 t111 t112 y131).bind fun bt134=>(some (a1_0,a1_1,a1_2,bt134.1,bt134.2.1,bt134.2.2)))=some (r1,r2,r3,r4,r5,r6):=by first|(rw [hy131];with_reducible exact H)|(have H2_:=(Option.bind_some _ _).symm.trans H;rw [hy131];with_reducible exact H2_)|(have H2_:=(Option.bind_some _ _).symm.trans H;with_reducible exact H2_)|with_reducible exact H|(rw [hy131];exact H)|exact H
     have Ny131:=Aside0.mk hy131
     clear hy131
     obtain ⟨⟨t134,t135,t136⟩,A48,H⟩:=zb H;(try dsimp only at H)
     simp only [Option.some.injEq,Prod.mk.injEq] at H
     obtain ⟨rfl,rfl,rfl,rfl,rfl,rfl⟩:=H
     go_enter Tryz.func43,Tryz.ntmps43
     go_wp2_with (first|((with_reducible refine gate_dst (N:=3) rfl ?_);refine zX 3 #[.int .i64 a1_0,.int .i64 a1_1,.int .i64 a1_2,.int .i64 a1_3] 25 ?_;intro gb108 hg w49 hbox hb;refine zA8 (IsS115.below (zI HI0.1) hb) (KeepBut.trans (zJ HK.1) (KeepBut.of_below hb g none) (.inl rfl)) (below_step (zH1 HB.1 (IsS115.ge HI0.1)) hb) (hbox) ((by rw [hg];exact (keep_size (w:=w) (g:=g) (row:=none) (zJ HK.1)):w.heap.size≤gb108)) ((Nat.le_trans HW0.1 (by rw [hg];exact (keep_size (w:=w) (g:=g) (row:=none) (zJ HK.1)):w.heap.size≤gb108):w0.heap.size≤gb108)) ((zl hg (IsS115.lt (show IsS115 w0 _ g s0_0 s0_1 s0_2 from zI HI0.1)):g≠gb108)) ((zg hg (IsS115.lt (show IsS115 w0 _ g s0_0 s0_1 s0_2 from zI HI0.1)):gb108≠g)) ?_;clear HI0 HK HB;intro HI0 HK HB BK108 GW108 GE108 NB0_108 NB108_0;clear hb hbox hg)|((with_reducible refine gate_dst (N:=4) rfl ?_);refine zX 4 #[.int .i64 0,.int .i64 0,.int .i64 0,.int .i64 0] 25 ?_;intro gb109 hg w50 hbox hb;refine zA11 (IsS115.below (zI1 HI0.1 NB0_108.1) hb) (zY BK108.1 hb) (KeepBut.trans (zJ1 HK.1 GW108.1) (KeepBut.of_below hb g none) (.inl rfl)) (below_step (zH2 HB.1 (IsS115.ge HI0.1) GE108.1) hb) (hbox) ((by rw [hg];exact (keep_size (w:=w) (g:=g) (row:=none) (zJ1 HK.1 GW108.1)):w.heap.size≤gb109)) ((Nat.le_trans HW0.1 (by rw [hg];exact (keep_size (w:=w) (g:=g) (row:=none) (zJ1 HK.1 GW108.1)):w.heap.size≤gb109):w0.heap.size≤gb109)) ((zl hg (blk_lt (g:=gb108) (o:=.cells #[.int .i64 a1_0,.int .i64 a1_1,.int .i64 a1_2,.int .i64 a1_3] 25 (0,0)) (zB BK108.1)):gb108≠gb109)) ((zg hg (blk_lt (g:=gb108) (o:=.cells #[.int .i64 a1_0,.int .i64 a1_1,.int .i64 a1_2,.int .i64 a1_3] 25 (0,0)) (zB BK108.1)):gb109≠gb108)) ((zl hg (IsS115.lt (show IsS115 w0 _ g s0_0 s0_1 s0_2 from zI1 HI0.1 NB0_108.1)):g≠gb109)) ((zg hg (IsS115.lt (show IsS115 w0 _ g s0_0 s0_1 s0_2 from zI1 HI0.1 NB0_108.1)):gb109≠g)) ?_;clear HI0 BK108 HK HB;intro HI0 BK108 HK HB BK109 GW109 GE109 NB108_109 NB109_108 NB0_109 NB109_0;clear hb hbox hg)|((with_reducible refine gate_callee (f:=42) rfl ?_);refine zL (some 6) Tryz.func42 #[.pointer (some ⟨g,0,none⟩),.int .i64 40] ?_;(with_reducible refine (spec_l01Next.calls g s0_0 s0_1 s0_2 40 t110 t111 t112 w0 _ ?side1 ?side2 A3.1).mono ?_);(case side1=>exact zI2 HI0.1 NB0_108.1 NB0_109.1);(case side2=>exact zH3 HB.1 (IsS115.ge HI0.1) GE108.1 GE109.1);rintro e w51 ⟨rfl,hi,hb,hk⟩;refine ⟨_,rfl,?_⟩;refine zA5 (zYk hk BK108.1 NB108_0.1) (zYk hk BK109.1 NB109_0.1) (KeepBut.trans (zJ2 HK.1 GW108.1 GW109.1) hk (.inl rfl)) (hb) (hi) ?_;clear BK108 BK109 HK HB HI0;intro BK108 BK109 HK HB HI0;(try clear hb);(try clear hk);(try clear hi);have hnb52:=NB108_109.1;have hnc52:=NB109_108.1;have hnb53:=NB108_0.1;have hnc53:=NB0_108.1;obtain ⟨Z54_0,Z54_1,Z54_2,Z54_3⟩:=zc4 BK108;obtain ⟨V54_0,V54_1,V54_2,V54_3⟩:=zf4 BK108)|((with_reducible refine gate_dst (N:=32) rfl ?_);refine Kd.R_lit (Kd.int .i64) _ 2 ?hg (N:=32) ?hd (xs:=([(-1),256,a1_2,4611686018427387904]:List Int)) (inner:=[.int .i64 (-1),.int .i64 256,.int .i64 a1_2,.int .i64 4611686018427387904]) (ok:=fun _=>True) (okp:=fun _=>True) ?hr ?hp (fun _ hk=>hk) trivial (Below.refl _ _) (Nat.le_refl _) (by simp) ?_;(case hd=>rfl);(case hg=>rfl);(case hr=>first|(go_simp;done)|(go_simp;rfl));(case hp=>exact (Reps.one (show Kd.M (Kd.int .i64) _ _ _ (-1) [.int .i64 (-1)] from rfl) (Reps.one (show Kd.M (Kd.int .i64) _ _ _ 256 [.int .i64 256] from rfl) (Reps.one (show Kd.M (Kd.int .i64) _ _ _ a1_2 [.int .i64 a1_2] from rfl) (Reps.one (show Kd.M (Kd.int .i64) _ _ _ 4611686018427387904 [.int .i64 4611686018427387904] from rfl) (Reps.none _ _))))));intro v132 w55 ho56 hb hg_ hnew_;clear hg_ hnew_;(first|rw [← Ny131.1] at ho56|(simp only [Int.reduceToNat] at ho56;rw [← Ny131.1] at ho56));refine zA6 (Kd.R_lower ho56 (keep_size (w:=w) (g:=g) (row:=none) (zJ2 HK.1 GW108.1 GW109.1))) (IsS115.below (zI2 HI0.1 NB0_108.1 NB0_109.1) hb) (zY BK108.1 hb) (zY BK109.1 hb) (KeepBut.trans (zJ2 HK.1 GW108.1 GW109.1) (KeepBut.of_below hb g none) (.inl rfl)) (below_step (zH3 HB.1 (IsS115.ge HI0.1) GE108.1 GE109.1) hb) ?_;clear HI0 BK108 BK109 HK HB;intro HO133 HI0 BK108 BK109 HK HB;clear hb ho56;obtain ⟨Ao57,co57,eo57⟩:=Kd.R_slice HO133.1;subst eo57)|((with_reducible refine gate_callee (f:=60) rfl ?_);refine zL (some 33) Tryz.func60 #[.pointer (some ⟨g,0,none⟩),.slice Ao57 y131.length co57] ?_;(with_reducible refine (spec_l01Pick.calls g s0_0 t111 t112 _ _ y131 t134 t135 t136 w0 _ ?side1 ?side2 ?side3 ?side4 ?side5 A48.1).mono ?_);(case side1=>exact zI2 HI0.1 NB0_108.1 NB0_109.1);(case side2=>exact zH3 HB.1 (IsS115.ge HI0.1) GE108.1 GE109.1);(case side3=>repeat (first|exact (Kd.R_reads' HO133.1).2.2|(with_reducible refine Kd.C_alloc ?_ _)|(with_reducible refine Kd.C_drewN ?_ _)|(with_reducible refine Kd.C_drew ?_)));(case side4=>exact (Kd.R_reads' HO133.1).2.1);(case side5=>exact far_slice (IsS115.own_ne HI0.1 HO133.1 (by decide)));rintro e w58 ⟨rfl,hi,hb,hk⟩;refine ⟨_,rfl,?_⟩;refine zA6 (zYk hk BK108.1 NB108_0.1) (zYk hk BK109.1 NB109_0.1) (Kd.R_mono (Kd.R_keep (IsS115.apart (show IsS115 w0 _ g s0_0 t111 t112 from zI2 HI0.1 NB0_108.1 NB0_109.1) (zR HO133.1) (by decide)) hk (fun _ h=>h.2)) (fun _ h=>h.1)) (KeepBut.trans (zJ2 HK.1 GW108.1 GW109.1) hk (.inl rfl)) (hb) (hi) ?_;clear BK108 BK109 HO133 HK HB HI0;intro BK108 BK109 HO133 HK HB HI0;(try clear hb);(try clear hk);(try clear hi);obtain ⟨Z59_0,Z59_1,Z59_2,Z59_3⟩:=zc4 BK108;obtain ⟨V59_0,V59_1,V59_2,V59_3⟩:=zf4 BK108;have hnb60:=NB109_0.1;have hnc60:=NB0_109.1;obtain ⟨Z61_0,Z61_1,Z61_2,Z61_3⟩:=zc4 BK109;obtain ⟨V61_0,V61_1,V61_2,V61_3⟩:=zf4 BK109))
     refine bodyPost_ret (results_cell_row rfl _ _ gb109 25 #[.int .i64 a1_0,.int .i64 a1_1,.int .i64 a1_2,.int .i64 t134] (0,0) _ rfl (zQ1 BK109.1 NB109_108.1) Tryz.underlying25 rfl (by kernel_rfl)) rfl ?_
     exact ⟨zE,zI2 HI0.1 NB0_108.1 NB0_109.1,zH3 HB.1 (IsS115.ge HI0.1) GE108.1 GE109.1,zJ2 HK.1 GW108.1 GW109.1⟩
    ·rw [if_neg c47] at H
     have c47b0:=zq3 c47
     have c47b1:=zq4 c47
     simp only [Option.some.injEq,Prod.mk.injEq] at H
     obtain ⟨rfl,rfl,rfl,rfl,rfl,rfl⟩:=H
     go_enter Tryz.func43,Tryz.ntmps43
     go_wp2_with (first|((with_reducible refine gate_dst (N:=3) rfl ?_);refine zX 3 #[.int .i64 a1_0,.int .i64 a1_1,.int .i64 a1_2,.int .i64 a1_3] 25 ?_;intro gb108 hg w62 hbox hb;refine zA8 (IsS115.below (zI HI0.1) hb) (KeepBut.trans (zJ HK.1) (KeepBut.of_below hb g none) (.inl rfl)) (below_step (zH1 HB.1 (IsS115.ge HI0.1)) hb) (hbox) ((by rw [hg];exact (keep_size (w:=w) (g:=g) (row:=none) (zJ HK.1)):w.heap.size≤gb108)) ((Nat.le_trans HW0.1 (by rw [hg];exact (keep_size (w:=w) (g:=g) (row:=none) (zJ HK.1)):w.heap.size≤gb108):w0.heap.size≤gb108)) ((zl hg (IsS115.lt (show IsS115 w0 _ g s0_0 s0_1 s0_2 from zI HI0.1)):g≠gb108)) ((zg hg (IsS115.lt (show IsS115 w0 _ g s0_0 s0_1 s0_2 from zI HI0.1)):gb108≠g)) ?_;clear HI0 HK HB;intro HI0 HK HB BK108 GW108 GE108 NB0_108 NB108_0;clear hb hbox hg)|((with_reducible refine gate_dst (N:=4) rfl ?_);refine zX 4 #[.int .i64 0,.int .i64 0,.int .i64 0,.int .i64 0] 25 ?_;intro gb109 hg w63 hbox hb;refine zA11 (IsS115.below (zI1 HI0.1 NB0_108.1) hb) (zY BK108.1 hb) (KeepBut.trans (zJ1 HK.1 GW108.1) (KeepBut.of_below hb g none) (.inl rfl)) (below_step (zH2 HB.1 (IsS115.ge HI0.1) GE108.1) hb) (hbox) ((by rw [hg];exact (keep_size (w:=w) (g:=g) (row:=none) (zJ1 HK.1 GW108.1)):w.heap.size≤gb109)) ((Nat.le_trans HW0.1 (by rw [hg];exact (keep_size (w:=w) (g:=g) (row:=none) (zJ1 HK.1 GW108.1)):w.heap.size≤gb109):w0.heap.size≤gb109)) ((zl hg (blk_lt (g:=gb108) (o:=.cells #[.int .i64 a1_0,.int .i64 a1_1,.int .i64 a1_2,.int .i64 a1_3] 25 (0,0)) (zB BK108.1)):gb108≠gb109)) ((zg hg (blk_lt (g:=gb108) (o:=.cells #[.int .i64 a1_0,.int .i64 a1_1,.int .i64 a1_2,.int .i64 a1_3] 25 (0,0)) (zB BK108.1)):gb109≠gb108)) ((zl hg (IsS115.lt (show IsS115 w0 _ g s0_0 s0_1 s0_2 from zI1 HI0.1 NB0_108.1)):g≠gb109)) ((zg hg (IsS115.lt (show IsS115 w0 _ g s0_0 s0_1 s0_2 from zI1 HI0.1 NB0_108.1)):gb109≠g)) ?_;clear HI0 BK108 HK HB;intro HI0 BK108 HK HB BK109 GW109 GE109 NB108_109 NB109_108 NB0_109 NB109_0;clear hb hbox hg)|((with_reducible refine gate_callee (f:=42) rfl ?_);refine zL (some 6) Tryz.func42 #[.pointer (some ⟨g,0,none⟩),.int .i64 40] ?_;(with_reducible refine (spec_l01Next.calls g s0_0 s0_1 s0_2 40 t110 t111 t112 w0 _ ?side1 ?side2 A3.1).mono ?_);(case side1=>exact zI2 HI0.1 NB0_108.1 NB0_109.1);(case side2=>exact zH3 HB.1 (IsS115.ge HI0.1) GE108.1 GE109.1);rintro e w64 ⟨rfl,hi,hb,hk⟩;refine ⟨_,rfl,?_⟩;refine zA5 (zYk hk BK108.1 NB108_0.1) (zYk hk BK109.1 NB109_0.1) (KeepBut.trans (zJ2 HK.1 GW108.1 GW109.1) hk (.inl rfl)) (hb) (hi) ?_;clear BK108 BK109 HK HB HI0;intro BK108 BK109 HK HB HI0;(try clear hb);(try clear hk);(try clear hi);have hnb65:=NB108_109.1;have hnc65:=NB109_108.1;have hnb66:=NB108_0.1;have hnc66:=NB0_108.1;obtain ⟨Z67_0,Z67_1,Z67_2,Z67_3⟩:=zc4 BK108;obtain ⟨V67_0,V67_1,V67_2,V67_3⟩:=zf4 BK108;have hnb68:=NB109_0.1;have hnc68:=NB0_109.1;obtain ⟨Z69_0,Z69_1,Z69_2,Z69_3⟩:=zc4 BK109;obtain ⟨V69_0,V69_1,V69_2,V69_3⟩:=zf4 BK109))
     refine bodyPost_ret (results_cell_row rfl _ _ gb109 25 #[.int .i64 a1_0,.int .i64 a1_1,.int .i64 a1_2,.int .i64 a1_3] (0,0) _ rfl (zQ BK109.1) Tryz.underlying25 rfl (by kernel_rfl)) rfl ?_
     exact ⟨zE,zI2 HI0.1 NB0_108.1 NB0_109.1,zH3 HB.1 (IsS115.ge HI0.1) GE108.1 GE109.1,zJ2 HK.1 GW108.1 GW109.1⟩
def spec_l05Move.f (a0_0:Int) (a0_1:Int) (a0_2:Int) (a0_3:Int) (a1:Int) (a2:Int):Option (Int×Int×Int×Int):=if a1=0 then (if 0≤(IntKind.u64.wrap (a2)) then (some (a0_0,a0_1,Go.bits .or .i64 a0_2 (shl .i64 1 (IntKind.u64.wrap (a2))),a0_3)) else (none)) else (if 0≤(IntKind.u64.wrap (a2)) then (some (a0_0,a0_1,a0_2,Go.bits .or .i64 a0_3 (shl .i64 1 (IntKind.u64.wrap (a2))))) else (none))
theorem spec_l05Move.calls (a0_0:Int) (a0_1:Int) (a0_2:Int) (a0_3:Int) (a1:Int) (a2:Int) (r1:Int) (r2:Int) (r3:Int) (r4:Int) (w:World) (h:spec_l05Move.f a0_0 a0_1 a0_2 a0_3 a1 a2=some (r1,r2,r3,r4)):
 Calls Tryz.prog 36 #[.agg #[.int .i64 a0_0,.int .i64 a0_1,.int .i64 a0_2,.int .i64 a0_3],.int .i64 a1,.int .i64 a2] w fun e w'=>e=.returned (.agg #[.int .i64 r1,.int .i64 r2,.int .i64 r3,.int .i64 r4])∧Below w.heap.size w w':=by
 have hu25:=Tryz.underlying25
 have HB:=Aside0.mk (Below.refl w.heap.size w)
 have H:(if a1=0 then (if 0≤(IntKind.u64.wrap (a2)) then (some (a0_0,a0_1,Go.bits .or .i64 a0_2 (shl .i64 1 (IntKind.u64.wrap (a2))),a0_3)) else (none)) else (if 0≤(IntKind.u64.wrap (a2)) then (some (a0_0,a0_1,a0_2,Go.bits .or .i64 a0_3 (shl .i64 1 (IntKind.u64.wrap (a2))))) else (none)))=some (r1,r2,r3,r4):=h
 clear h
 by_cases c4:a1=0
 ·rw [if_pos c4] at H
  have c4b0:=zq1 c4
  have c4b1:=zq2 c4
  clear c4
  obtain ⟨ji5,hji5⟩:=zj (IntKind.u64.wrap (a2))
  (first|rw [hji5] at H|simp only [hji5] at H)
  by_cases c6:0≤(ji5)
  ·rw [if_pos c6] at H
   have c6b0:=eq_true c6
   have c6b1:=decide_eq_true c6
   clear c6
   obtain ⟨ji7,hji7⟩:=zj (shl .i64 1 (ji5))
   (first|rw [hji7] at H|simp only [hji7] at H)
   have hji7_:(IntKind.i64.wrap (1*2 ^ min (ji5).toNat 64))=ji7:=hji7
   have hji7z:(ji5)≤64→(IntKind.i64.wrap (1*2 ^ (ji5).toNat))=ji7:=shl_small hji7
   have hji7u:(IntKind.i64.wrap (2 ^ min (ji5).toNat 64))=ji7:=by have h_:=hji7_;rw [Int.one_mul] at h_;exact h_
   have hji7v:(ji5)≤64→(IntKind.i64.wrap (2 ^ (ji5).toNat))=ji7:=fun hle_=>by have h_:=hji7z hle_;rw [Int.one_mul] at h_;exact h_
   have hji7y:(wrap64 (1*2 ^ min (ji5).toNat 64))=ji7:=(i64_w _).symm.trans hji7_
   have hji7x:(ji5)≤64→(wrap64 (1*2 ^ (ji5).toNat))=ji7:=fun h_=>(i64_w _).symm.trans (hji7z h_)
   simp only [Option.some.injEq,Prod.mk.injEq] at H
   obtain ⟨rfl,rfl,rfl,rfl⟩:=H
   go_enter Tryz.func36,Tryz.ntmps36
   go_wp2_with (first|((with_reducible refine gate_dst (N:=3) rfl ?_);refine zX 3 #[.int .i64 a0_0,.int .i64 a0_1,.int .i64 a0_2,.int .i64 a0_3] 25 ?_;intro gb137 hg w8 hbox hb;refine zA4 (below_step (zH HB.1) hb) (hbox) (zs hg HB:w.heap.size≤gb137) (zs hg HB:w.heap.size≤gb137) ?_;clear HB;intro HB BK137 GW137 GE137;clear hb hbox hg)|((with_reducible refine gate_dst (N:=6) rfl ?_);refine zX 6 #[.int .i64 0,.int .i64 0,.int .i64 0,.int .i64 0] 25 ?_;intro gb138 hg w9 hbox hb;refine zA7 (zY BK137.1 hb) (below_step (zH1 HB.1 GE137.1) hb) (hbox) ((zS hg (below_size (zH1 HB.1 GE137.1)):w.heap.size≤gb138)) ((zS hg (below_size (zH1 HB.1 GE137.1)):w.heap.size≤gb138)) ((zl hg (blk_lt (g:=gb137) (o:=.cells #[.int .i64 a0_0,.int .i64 a0_1,.int .i64 a0_2,.int .i64 a0_3] 25 (0,0)) (zB BK137.1)):gb137≠gb138)) ((zg hg (blk_lt (g:=gb137) (o:=.cells #[.int .i64 a0_0,.int .i64 a0_1,.int .i64 a0_2,.int .i64 a0_3] 25 (0,0)) (zB BK137.1)):gb138≠gb137)) ?_;clear BK137 HB;intro BK137 HB BK138 GW138 GE138 NB137_138 NB138_137;clear hb hbox hg;have hnb10:=NB137_138.1;have hnc10:=NB138_137.1;obtain ⟨Z11_0,Z11_1,Z11_2,Z11_3⟩:=zc4 BK137;obtain ⟨V11_0,V11_1,V11_2,V11_3⟩:=zf4 BK137;obtain ⟨Z12_0,Z12_1,Z12_2,Z12_3⟩:=zc4 BK138;obtain ⟨V12_0,V12_1,V12_2,V12_3⟩:=zf4 BK138))
   refine bodyPost_ret (results_cell_row rfl _ _ gb138 25 #[.int .i64 a0_0,.int .i64 a0_1,.int .i64 (Go.bits .or .i64 a0_2 (ji7)),.int .i64 a0_3] (0,0) _ rfl (zQ1 BK138.1 NB138_137.1) Tryz.underlying25 rfl (by kernel_rfl)) rfl ?_
   exact ⟨by first|rfl|(simp [errW_none,errW_some] <;> rfl)|(simp only [← hji5,← hji7];first|rfl|(simp [errW_none,errW_some] <;> rfl))|(simp [*,errW_none,errW_some] <;> rfl),zH2 HB.1 GE137.1 GE138.1⟩
  ·rw [if_neg c6] at H
   exact absurd H (by simp)
 ·rw [if_neg c4] at H
  have c4b0:=zq3 c4
  have c4b1:=zq4 c4
  obtain ⟨ji13,hji13⟩:=zj (IntKind.u64.wrap (a2))
  (first|rw [hji13] at H|simp only [hji13] at H)
  by_cases c14:0≤(ji13)
  ·rw [if_pos c14] at H
   have c14b0:=eq_true c14
   have c14b1:=decide_eq_true c14
   clear c14
   obtain ⟨ji15,hji15⟩:=zj (shl .i64 1 (ji13))
   (first|rw [hji15] at H|simp only [hji15] at H)
   have hji15_:(IntKind.i64.wrap (1*2 ^ min (ji13).toNat 64))=ji15:=hji15
   have hji15z:(ji13)≤64→(IntKind.i64.wrap (1*2 ^ (ji13).toNat))=ji15:=shl_small hji15
   have hji15u:(IntKind.i64.wrap (2 ^ min (ji13).toNat 64))=ji15:=by have h_:=hji15_;rw [Int.one_mul] at h_;exact h_
   have hji15v:(ji13)≤64→(IntKind.i64.wrap (2 ^ (ji13).toNat))=ji15:=fun hle_=>by have h_:=hji15z hle_;rw [Int.one_mul] at h_;exact h_
   have hji15y:(wrap64 (1*2 ^ min (ji13).toNat 64))=ji15:=(i64_w _).symm.trans hji15_
   have hji15x:(ji13)≤64→(wrap64 (1*2 ^ (ji13).toNat))=ji15:=fun h_=>(i64_w _).symm.trans (hji15z h_)
   simp only [Option.some.injEq,Prod.mk.injEq] at H
   obtain ⟨rfl,rfl,rfl,rfl⟩:=H
   go_enter Tryz.func36,Tryz.ntmps36
   go_wp2_with (first|((with_reducible refine gate_dst (N:=3) rfl ?_);refine zX 3 #[.int .i64 a0_0,.int .i64 a0_1,.int .i64 a0_2,.int .i64 a0_3] 25 ?_;intro gb137 hg w16 hbox hb;refine zA4 (below_step (zH HB.1) hb) (hbox) (zs hg HB:w.heap.size≤gb137) (zs hg HB:w.heap.size≤gb137) ?_;clear HB;intro HB BK137 GW137 GE137;clear hb hbox hg)|((with_reducible refine gate_dst (N:=6) rfl ?_);refine zX 6 #[.int .i64 0,.int .i64 0,.int .i64 0,.int .i64 0] 25 ?_;intro gb138 hg w17 hbox hb;refine zA7 (zY BK137.1 hb) (below_step (zH1 HB.1 GE137.1) hb) (hbox) ((zS hg (below_size (zH1 HB.1 GE137.1)):w.heap.size≤gb138)) ((zS hg (below_size (zH1 HB.1 GE137.1)):w.heap.size≤gb138)) ((zl hg (blk_lt (g:=gb137) (o:=.cells #[.int .i64 a0_0,.int .i64 a0_1,.int .i64 a0_2,.int .i64 a0_3] 25 (0,0)) (zB BK137.1)):gb137≠gb138)) ((zg hg (blk_lt (g:=gb137) (o:=.cells #[.int .i64 a0_0,.int .i64 a0_1,.int .i64 a0_2,.int .i64 a0_3] 25 (0,0)) (zB BK137.1)):gb138≠gb137)) ?_;clear BK137 HB;intro BK137 HB BK138 GW138 GE138 NB137_138 NB138_137;clear hb hbox hg;have hnb18:=NB137_138.1;have hnc18:=NB138_137.1;obtain ⟨Z19_0,Z19_1,Z19_2,Z19_3⟩:=zc4 BK137;obtain ⟨V19_0,V19_1,V19_2,V19_3⟩:=zf4 BK137;obtain ⟨Z20_0,Z20_1,Z20_2,Z20_3⟩:=zc4 BK138;obtain ⟨V20_0,V20_1,V20_2,V20_3⟩:=zf4 BK138))
   refine bodyPost_ret (results_cell_row rfl _ _ gb138 25 #[.int .i64 a0_0,.int .i64 a0_1,.int .i64 a0_2,.int .i64 (Go.bits .or .i64 a0_3 (ji15))] (0,0) _ rfl (zQ1 BK138.1 NB138_137.1) Tryz.underlying25 rfl (by kernel_rfl)) rfl ?_
   exact ⟨by first|rfl|(simp [errW_none,errW_some] <;> rfl)|(simp only [← hji13,← hji15];first|rfl|(simp [errW_none,errW_some] <;> rfl))|(simp [*,errW_none,errW_some] <;> rfl),zH2 HB.1 GE137.1 GE138.1⟩
  ·rw [if_neg c14] at H
   exact absurd H (by simp)
def spec_l05Joined.f (a0_0:Int) (a0_1:Int) (a0_2:Int) (a0_3:Int) (a1:Int) (a2:Int):Option (Bool):=if 0≤(IntKind.u64.wrap (wrap64 ((wrap64 (Int.tdiv (wrap64 ((mx a1 a2)*(wrap64 ((mx a1 a2)-1)))) 2))+(mn a1 a2)))) then (some ((Go.bits .and .i64 (shr .i64 a0_1 (IntKind.u64.wrap (wrap64 ((wrap64 (Int.tdiv (wrap64 ((mx a1 a2)*(wrap64 ((mx a1 a2)-1)))) 2))+(mn a1 a2))))) 1)==1)) else (none)
theorem spec_l05Joined.calls (a0_0:Int) (a0_1:Int) (a0_2:Int) (a0_3:Int) (a1:Int) (a2:Int) (r:Bool) (w:World) (h:spec_l05Joined.f a0_0 a0_1 a0_2 a0_3 a1 a2=some r):
 Calls Tryz.prog 84 #[.agg #[.int .i64 a0_0,.int .i64 a0_1,.int .i64 a0_2,.int .i64 a0_3],.int .i64 a1,.int .i64 a2] w fun e w'=>e=.returned (.bool r)∧Below w.heap.size w w':=by
 have hu25:=Tryz.underlying25
 have HB:=Aside0.mk (Below.refl w.heap.size w)
 have H:(if 0≤(IntKind.u64.wrap (wrap64 ((wrap64 (Int.tdiv (wrap64 ((mx a1 a2)*(wrap64 ((mx a1 a2)-1)))) 2))+(mn a1 a2)))) then (some ((Go.bits .and .i64 (shr .i64 a0_1 (IntKind.u64.wrap (wrap64 ((wrap64 (Int.tdiv (wrap64 ((mx a1 a2)*(wrap64 ((mx a1 a2)-1)))) 2))+(mn a1 a2))))) 1)==1)) else (none))=some r:=h
 clear h
 obtain ⟨ji4,hji4⟩:=zj (mn a1 a2)
 (first|rw [hji4] at H|simp only [hji4] at H)
 have hji4_:(if a2<a1 then a2 else a1)=ji4:=hji4
 obtain ⟨ji5,hji5⟩:=zj (mx a1 a2)
 (first|rw [hji5] at H|simp only [hji5] at H)
 have hji5_:(if a1<a2 then a2 else a1)=ji5:=hji5
 obtain ⟨ji6,hji6⟩:=zj (IntKind.u64.wrap (wrap64 ((wrap64 (Int.tdiv (wrap64 ((ji5)*(wrap64 ((ji5)-1)))) 2))+(ji4))))
 (first|rw [hji6] at H|simp only [hji6] at H)
 by_cases c7:0≤(ji6)
 ·rw [if_pos c7] at H
  have c7b0:=eq_true c7
  have c7b1:=decide_eq_true c7
  clear c7
  obtain ⟨ji8,hji8⟩:=zj (shr .i64 a0_1 (ji6))
  (first|rw [hji8] at H|simp only [hji8] at H)
  have hji8_:(a0_1/2 ^ min (ji6).toNat 64)=ji8:=hji8
  have hji8z:(ji6)≤64→(a0_1/2 ^ (ji6).toNat)=ji8:=shr_small hji8
  obtain rfl:=Option.some.inj H
  go_enter Tryz.func84,Tryz.ntmps84
  go_wp2_with (first|((with_reducible refine gate_dst (N:=3) rfl ?_);refine zX 3 #[.int .i64 a0_0,.int .i64 a0_1,.int .i64 a0_2,.int .i64 a0_3] 25 ?_;intro gb139 hg w9 hbox hb;refine zA4 (below_step (zH HB.1) hb) (hbox) (zs hg HB:w.heap.size≤gb139) (zs hg HB:w.heap.size≤gb139) ?_;clear HB;intro HB BK139 GW139 GE139;clear hb hbox hg;obtain ⟨Z10_0,Z10_1,Z10_2,Z10_3⟩:=zc4 BK139;obtain ⟨V10_0,V10_1,V10_2,V10_3⟩:=zf4 BK139))
  go_ret
  exact ⟨by first|rfl|(simp [errW_none,errW_some] <;> rfl)|(simp only [← hji4,← hji5,← hji6,← hji8];first|rfl|(simp [errW_none,errW_some] <;> rfl))|(simp [*,errW_none,errW_some] <;> rfl),zH1 HB.1 GE139.1⟩
 ·rw [if_neg c7] at H
  exact absurd H (by simp)
mutual
def spec_l05Fair.l0:Nat→Int→Int→Int→Int→Int→Int→Option (Bool)
 |0,_,_,_,_,_,_=>none
 |k+1,x1,x5,x141000,x141001,x141002,x141003=>if x5<x141000 then (spec_l05Fair.l1 k x1 x5 0 x141000 x141001 x141002 x141003) else (some true)
def spec_l05Fair.l1:Nat→Int→Int→Int→Int→Int→Int→Int→Option (Bool)
 |0,_,_,_,_,_,_,_=>none
 |k+1,x1,x5,x6,x141000,x141001,x141002,x141003=>if x6<x5 then ((spec_l05Joined.f x141000 x141001 x141002 x141003 x6 x5).bind fun t141=>(if t141=true then (if 0≤(IntKind.u64.wrap (x6)) then (if 0≤(IntKind.u64.wrap (x5)) then (if (wrap64 ((Go.bits .and .i64 (shr .i64 x141002 (IntKind.u64.wrap (x6))) 1)+(wrap64 (2*(Go.bits .and .i64 (shr .i64 x141003 (IntKind.u64.wrap (x6))) 1)))))>0 then (if (wrap64 ((Go.bits .and .i64 (shr .i64 x141002 (IntKind.u64.wrap (x5))) 1)+(wrap64 (2*(Go.bits .and .i64 (shr .i64 x141003 (IntKind.u64.wrap (x5))) 1)))))>0 then (if (((wrap64 ((Go.bits .and .i64 (shr .i64 x141002 (IntKind.u64.wrap (x6))) 1)+(wrap64 (2*(Go.bits .and .i64 (shr .i64 x141003 (IntKind.u64.wrap (x6))) 1)))))==(wrap64 ((Go.bits .and .i64 (shr .i64 x141002 (IntKind.u64.wrap (x5))) 1)+(wrap64 (2*(Go.bits .and .i64 (shr .i64 x141003 (IntKind.u64.wrap (x5))) 1))))))==(x1==0))=true then (some false) else (spec_l05Fair.l1 k x1 x5 (wrap64 (x6+1)) x141000 x141001 x141002 x141003)) else (spec_l05Fair.l1 k x1 x5 (wrap64 (x6+1)) x141000 x141001 x141002 x141003)) else (spec_l05Fair.l1 k x1 x5 (wrap64 (x6+1)) x141000 x141001 x141002 x141003)) else (none)) else (none)) else (spec_l05Fair.l1 k x1 x5 (wrap64 (x6+1)) x141000 x141001 x141002 x141003))) else (spec_l05Fair.l0 k x1 (wrap64 (x5+1)) x141000 x141001 x141002 x141003)
end
def spec_l05Fair.f (k:Nat) (a0_0:Int) (a0_1:Int) (a0_2:Int) (a0_3:Int) (a1:Int):Option (Bool):=spec_l05Fair.l0 k a1 1 a0_0 a0_1 a0_2 a0_3
theorem spec_l05Fair.calls (k:Nat) (a0_0:Int) (a0_1:Int) (a0_2:Int) (a0_3:Int) (a1:Int) (r:Bool) (w:World) (h:spec_l05Fair.f k a0_0 a0_1 a0_2 a0_3 a1=some r):
 Calls Tryz.prog 76 #[.agg #[.int .i64 a0_0,.int .i64 a0_1,.int .i64 a0_2,.int .i64 a0_3],.int .i64 a1] w fun e w'=>e=.returned (.bool r)∧Below w.heap.size w w':=by
 have hu25:=Tryz.underlying25
 have HB:=Aside0.mk (Below.refl w.heap.size w)
 have H:(spec_l05Fair.l0 k a1 1 a0_0 a0_1 a0_2 a0_3)=some r:=h
 clear h
 have H':=Aside0.mk H
 clear H
 go_enter Tryz.func76,Tryz.ntmps76
 go_wp2_with (first|((with_reducible refine gate_dst (N:=2) rfl ?_);refine zX 2 #[.int .i64 a0_0,.int .i64 a0_1,.int .i64 a0_2,.int .i64 a0_3] 25 ?_;intro gb140 hg w3 hbox hb;refine zA4 (below_step (zH HB.1) hb) (hbox) (zs hg HB:w.heap.size≤gb140) (zs hg HB:w.heap.size≤gb140) ?_;clear HB;intro HB BK140 GW140 GE140;clear hb hbox hg))
 repeat (go_quiet (first|((with_reducible refine gate_dst (N:=2) rfl ?_);refine zX 2 #[.int .i64 a0_0,.int .i64 a0_1,.int .i64 a0_2,.int .i64 a0_3] 25 ?_;intro gb140 hg w3 hbox hb;refine zA4 (below_step (zH HB.1) hb) (hbox) (zs hg HB:w.heap.size≤gb140) (zs hg HB:w.heap.size≤gb140) ?_;clear HB;intro HB BK140 GW140 GE140;clear hb hbox hg));try go_wp2_with (first|((with_reducible refine gate_dst (N:=2) rfl ?_);refine zX 2 #[.int .i64 a0_0,.int .i64 a0_1,.int .i64 a0_2,.int .i64 a0_3] 25 ?_;intro gb140 hg w3 hbox hb;refine zA4 (below_step (zH HB.1) hb) (hbox) (zs hg HB:w.heap.size≤gb140) (zs hg HB:w.heap.size≤gb140) ?_;clear HB;intro HB BK140 GW140 GE140;clear hb hbox hg)))
 go_loopg [5] k (fun kq v5 w'=>∃ (x5_1:Int),v5=.int .i64 x5_1∧Aside0 (spec_l05Fair.l0 kq a1 x5_1 a0_0 a0_1 a0_2 a0_3=some r)∧Aside0 (kq≤k)∧Aside0 (w'.heap[gb140]?=some (.cells #[.int .i64 a0_0,.int .i64 a0_1,.int .i64 a0_2,.int .i64 a0_3] 25 (0,0)))∧Aside0 (Below w.heap.size w w'))
 case atStart=>exact ⟨(1),(zF),H',⟨Nat.le_refl _⟩,⟨zB BK140.1⟩,⟨zH1 HB.1 GE140.1⟩⟩
 case round=>
  clear H'
  try clear p2
  obtain ⟨x5_1,rfl,HA,HK1,BK140,HB⟩:=hrel
  cases gk with
  |zero=>exact absurd HA.1 (by simp [spec_l05Fair.l0])
  |succ k1=>
   have H:=HA.1
   clear HA
   simp only [spec_l05Fair.l0] at H
   by_cases c4:x5_1<a0_0
   ·rw [if_pos c4] at H
    have c4b0:=decide_eq_true c4
    clear c4
    have H':=Aside0.mk H
    clear H
    obtain ⟨Z5_0,Z5_1,Z5_2,Z5_3⟩:=zc4 BK140
    obtain ⟨V5_0,V5_1,V5_2,V5_3⟩:=zf4 BK140
    go_wp2
    repeat (go_quiet (fail);try go_wp2)
    go_loopg [6] k1 (fun kq v6 w'=>∃ (x6_2:Int),v6=.int .i64 x6_2∧Aside0 (spec_l05Fair.l1 kq a1 x5_1 x6_2 a0_0 a0_1 a0_2 a0_3=some r)∧Aside0 (kq≤k1)∧Aside0 (w'.heap[gb140]?=some (.cells #[.int .i64 a0_0,.int .i64 a0_1,.int .i64 a0_2,.int .i64 a0_3] 25 (0,0)))∧Aside0 (Below w.heap.size w w'))
    case atStart=>exact ⟨(0),(zF),H',⟨Nat.le_refl _⟩,⟨zB BK140.1⟩,⟨zH1 HB.1 GE140.1⟩⟩
    case round=>
     clear H'
     try clear p2
     try clear c4
     try clear c4b0
     try clear Z5_0 Z5_1 Z5_2 Z5_3 V5_0 V5_1 V5_2 V5_3
     try clear p2
     obtain ⟨x6_2,rfl,HA,HK2,BK140,HB⟩:=hrel
     cases gk with
     |zero=>exact absurd HA.1 (by simp [spec_l05Fair.l1])
     |succ k2=>
      have H:=HA.1
      clear HA
      simp only [spec_l05Fair.l1] at H
      by_cases c6:x6_2<x5_1
      ·rw [if_pos c6] at H
       have c6b0:=decide_eq_true c6
       clear c6
       obtain ⟨t141,A7,H⟩:=zb H
       by_cases c8:t141=true
       ·subst c8
        have H1:(if 0≤(IntKind.u64.wrap (x6_2)) then (if 0≤(IntKind.u64.wrap (x5_1)) then (if (wrap64 ((Go.bits .and .i64 (shr .i64 a0_2 (IntKind.u64.wrap (x6_2))) 1)+(wrap64 (2*(Go.bits .and .i64 (shr .i64 a0_3 (IntKind.u64.wrap (x6_2))) 1)))))>0 then (if (wrap64 ((Go.bits .and .i64 (shr .i64 a0_2 (IntKind.u64.wrap (x5_1))) 1)+(wrap64 (2*(Go.bits .and .i64 (shr .i64 a0_3 (IntKind.u64.wrap (x5_1))) 1)))))>0 then (if (((wrap64 ((Go.bits .and .i64 (shr .i64 a0_2 (IntKind.u64.wrap (x6_2))) 1)+(wrap64 (2*(Go.bits .and .i64 (shr .i64 a0_3 (IntKind.u64.wrap (x6_2))) 1)))))==(wrap64 ((Go.bits .and .i64 (shr .i64 a0_2 (IntKind.u64.wrap (x5_1))) 1)+(wrap64 (2*(Go.bits .and .i64 (shr .i64 a0_3 (IntKind.u64.wrap (x5_1))) 1))))))==(a1==0))=true then (some false) else (spec_l05Fair.l1 k2 a1 x5_1 (wrap64 (x6_2+1)) a0_0 a0_1 a0_2 a0_3)) else (spec_l05Fair.l1 k2 a1 x5_1 (wrap64 (x6_2+1)) a0_0 a0_1 a0_2 a0_3)) else (spec_l05Fair.l1 k2 a1 x5_1 (wrap64 (x6_2+1)) a0_0 a0_1 a0_2 a0_3)) else (none)) else (none))=some r:=by rw [if_pos rfl] at H;exact H
        clear H
        have H:=H1
        clear H1
        obtain ⟨ji9,hji9⟩:=zj (IntKind.u64.wrap (x6_2))
        (first|rw [hji9] at H|simp only [hji9] at H)
        (try rw [hji9] at A7)
        by_cases c10:0≤(ji9)
        ·rw [if_pos c10] at H
         have c10b0:=eq_true c10
         have c10b1:=decide_eq_true c10
         clear c10
         obtain ⟨ji11,hji11⟩:=zj (shr .i64 a0_2 (ji9))
         (first|rw [hji11] at H|simp only [hji11] at H)
         (try rw [hji11] at A7)
         have hji11_:(a0_2/2 ^ min (ji9).toNat 64)=ji11:=hji11
         have hji11z:(ji9)≤64→(a0_2/2 ^ (ji9).toNat)=ji11:=shr_small hji11
         have c12b0:=eq_true (zo:0≤(ji9))
         obtain ⟨ji13,hji13⟩:=zj (shr .i64 a0_3 (ji9))
         (first|rw [hji13] at H|simp only [hji13] at H)
         (try rw [hji13] at A7)
         have hji13_:(a0_3/2 ^ min (ji9).toNat 64)=ji13:=hji13
         have hji13z:(ji9)≤64→(a0_3/2 ^ (ji9).toNat)=ji13:=shr_small hji13
         obtain ⟨ji14,hji14⟩:=zj (IntKind.u64.wrap (x5_1))
         (first|rw [hji14] at H|simp only [hji14] at H)
         (try rw [hji14] at A7)
         by_cases c15:0≤(ji14)
         ·rw [if_pos c15] at H
          have c15b0:=eq_true c15
          have c15b1:=decide_eq_true c15
          clear c15
          obtain ⟨ji16,hji16⟩:=zj (shr .i64 a0_2 (ji14))
          (first|rw [hji16] at H|simp only [hji16] at H)
          (try rw [hji16] at A7)
          have hji16_:(a0_2/2 ^ min (ji14).toNat 64)=ji16:=hji16
          have hji16z:(ji14)≤64→(a0_2/2 ^ (ji14).toNat)=ji16:=shr_small hji16
          have c17b0:=eq_true (zo:0≤(ji14))
          obtain ⟨ji18,hji18⟩:=zj (shr .i64 a0_3 (ji14))
          (first|rw [hji18] at H|simp only [hji18] at H)
          (try rw [hji18] at A7)
          have hji18_:(a0_3/2 ^ min (ji14).toNat 64)=ji18:=hji18
          have hji18z:(ji14)≤64→(a0_3/2 ^ (ji14).toNat)=ji18:=shr_small hji18
          by_cases c19:(wrap64 ((Go.bits .and .i64 (ji11) 1)+(wrap64 (2*(Go.bits .and .i64 (ji13) 1)))))>0
          ·rw [if_pos c19] at H
           have c19b0:=decide_eq_true c19
           clear c19
           by_cases c20:(wrap64 ((Go.bits .and .i64 (ji16) 1)+(wrap64 (2*(Go.bits .and .i64 (ji18) 1)))))>0
           ·rw [if_pos c20] at H
            have c20b0:=decide_eq_true c20
            clear c20
            by_cases c21:(((wrap64 ((Go.bits .and .i64 (ji11) 1)+(wrap64 (2*(Go.bits .and .i64 (ji13) 1)))))==(wrap64 ((Go.bits .and .i64 (ji16) 1)+(wrap64 (2*(Go.bits .and .i64 (ji18) 1))))))==(a1==0))=true
            ·rw [if_pos c21] at H
             have c21b0:(((wrap64 ((Go.bits .and .i64 (ji11) 1)+(wrap64 (2*(Go.bits .and .i64 (ji13) 1)))))==(wrap64 ((Go.bits .and .i64 (ji16) 1)+(wrap64 (2*(Go.bits .and .i64 (ji18) 1))))))==(a1==0))=true:=c21
             (try (have c21b1:decide (((wrap64 ((Go.bits .and .i64 (ji11) 1)+(wrap64 (2*(Go.bits .and .i64 (ji13) 1)))))==(wrap64 ((Go.bits .and .i64 (ji16) 1)+(wrap64 (2*(Go.bits .and .i64 (ji18) 1))))))=(a1==0))=true:=by simpa using c21))
             (try (have c21b2:(((wrap64 ((Go.bits .and .i64 (ji11) 1)+(wrap64 (2*(Go.bits .and .i64 (ji13) 1)))))==(wrap64 ((Go.bits .and .i64 (ji16) 1)+(wrap64 (2*(Go.bits .and .i64 (ji18) 1))))))==(a1==0))=true:=by simpa using c21))
             clear c21
             obtain rfl:=Option.some.inj H
             obtain ⟨Z22_0,Z22_1,Z22_2,Z22_3⟩:=zc4 BK140
             obtain ⟨V22_0,V22_1,V22_2,V22_3⟩:=zf4 BK140
             go_wp2_with (first|(go_at_call 84;(with_reducible refine (spec_l05Joined.calls a0_0 a0_1 a0_2 a0_3 x6_2 x5_1 true _ A7.1).mono ?_);rintro e w23 ⟨rfl,hb⟩;refine zA2 (zY BK140.1 hb) (below_step (zH1 HB.1 GE140.1) hb) ?_;clear BK140 HB;intro BK140 HB;(try clear hb);obtain ⟨Z24_0,Z24_1,Z24_2,Z24_3⟩:=zc4 BK140;obtain ⟨V24_0,V24_1,V24_2,V24_3⟩:=zf4 BK140))
             repeat (go_quiet (first|(go_at_call 84;(with_reducible refine (spec_l05Joined.calls a0_0 a0_1 a0_2 a0_3 x6_2 x5_1 true _ A7.1).mono ?_);rintro e w23 ⟨rfl,hb⟩;refine zA2 (zY BK140.1 hb) (below_step (zH1 HB.1 GE140.1) hb) ?_;clear BK140 HB;intro BK140 HB;(try clear hb);obtain ⟨Z24_0,Z24_1,Z24_2,Z24_3⟩:=zc4 BK140;obtain ⟨V24_0,V24_1,V24_2,V24_3⟩:=zf4 BK140));try go_wp2_with (first|(go_at_call 84;(with_reducible refine (spec_l05Joined.calls a0_0 a0_1 a0_2 a0_3 x6_2 x5_1 true _ A7.1).mono ?_);rintro e w23 ⟨rfl,hb⟩;refine zA2 (zY BK140.1 hb) (below_step (zH1 HB.1 GE140.1) hb) ?_;clear BK140 HB;intro BK140 HB;(try clear hb);obtain ⟨Z24_0,Z24_1,Z24_2,Z24_3⟩:=zc4 BK140;obtain ⟨V24_0,V24_1,V24_2,V24_3⟩:=zf4 BK140)))
             go_ret
             exact ⟨by first|rfl|(simp [errW_none,errW_some] <;> rfl)|(simp only [← hji9,← hji11,← hji13,← hji14,← hji16,← hji18];first|rfl|(simp [errW_none,errW_some] <;> rfl))|(simp [*,errW_none,errW_some] <;> rfl),zH1 HB.1 GE140.1⟩
            ·rw [if_neg c21] at H
             have c21b0:(((wrap64 ((Go.bits .and .i64 (ji11) 1)+(wrap64 (2*(Go.bits .and .i64 (ji13) 1)))))==(wrap64 ((Go.bits .and .i64 (ji16) 1)+(wrap64 (2*(Go.bits .and .i64 (ji18) 1))))))==(a1==0))=false:=by simpa using c21
             (try (have c21b1:decide (((wrap64 ((Go.bits .and .i64 (ji11) 1)+(wrap64 (2*(Go.bits .and .i64 (ji13) 1)))))==(wrap64 ((Go.bits .and .i64 (ji16) 1)+(wrap64 (2*(Go.bits .and .i64 (ji18) 1))))))=(a1==0))=false:=by simpa using c21))
             (try (have c21b2:(((wrap64 ((Go.bits .and .i64 (ji11) 1)+(wrap64 (2*(Go.bits .and .i64 (ji13) 1)))))==(wrap64 ((Go.bits .and .i64 (ji16) 1)+(wrap64 (2*(Go.bits .and .i64 (ji18) 1))))))==(a1==0))=false:=by simpa using c21))
             (try (have c21b3:¬ (((wrap64 ((Go.bits .and .i64 (ji11) 1)+(wrap64 (2*(Go.bits .and .i64 (ji13) 1)))))==(wrap64 ((Go.bits .and .i64 (ji16) 1)+(wrap64 (2*(Go.bits .and .i64 (ji18) 1))))))=(a1==0)):=by simpa using c21))
             clear c21
             have H':=Aside0.mk H
             clear H
             obtain ⟨Z25_0,Z25_1,Z25_2,Z25_3⟩:=zc4 BK140
             obtain ⟨V25_0,V25_1,V25_2,V25_3⟩:=zf4 BK140
             go_wp2_with (first|(go_at_call 84;(with_reducible refine (spec_l05Joined.calls a0_0 a0_1 a0_2 a0_3 x6_2 x5_1 true _ A7.1).mono ?_);rintro e w26 ⟨rfl,hb⟩;refine zA2 (zY BK140.1 hb) (below_step (zH1 HB.1 GE140.1) hb) ?_;clear BK140 HB;intro BK140 HB;(try clear hb);obtain ⟨Z27_0,Z27_1,Z27_2,Z27_3⟩:=zc4 BK140;obtain ⟨V27_0,V27_1,V27_2,V27_3⟩:=zf4 BK140))
             repeat (go_quiet (first|(go_at_call 84;(with_reducible refine (spec_l05Joined.calls a0_0 a0_1 a0_2 a0_3 x6_2 x5_1 true _ A7.1).mono ?_);rintro e w26 ⟨rfl,hb⟩;refine zA2 (zY BK140.1 hb) (below_step (zH1 HB.1 GE140.1) hb) ?_;clear BK140 HB;intro BK140 HB;(try clear hb);obtain ⟨Z27_0,Z27_1,Z27_2,Z27_3⟩:=zc4 BK140;obtain ⟨V27_0,V27_1,V27_2,V27_3⟩:=zf4 BK140));try go_wp2_with (first|(go_at_call 84;(with_reducible refine (spec_l05Joined.calls a0_0 a0_1 a0_2 a0_3 x6_2 x5_1 true _ A7.1).mono ?_);rintro e w26 ⟨rfl,hb⟩;refine zA2 (zY BK140.1 hb) (below_step (zH1 HB.1 GE140.1) hb) ?_;clear BK140 HB;intro BK140 HB;(try clear hb);obtain ⟨Z27_0,Z27_1,Z27_2,Z27_3⟩:=zc4 BK140;obtain ⟨V27_0,V27_1,V27_2,V27_3⟩:=zf4 BK140)))
             go_roundg k2
             case measure=>have:=HK1.1;have:=HK2.1;omega
             case rel=>exact ⟨(wrap64 (x6_2+1)),(zF),H',⟨by have:=HK1.1;have:=HK2.1;omega⟩,⟨zB BK140.1⟩,⟨zH1 HB.1 GE140.1⟩⟩
           ·rw [if_neg c20] at H
            have c20b0:=decide_eq_false c20
            clear c20
            have H':=Aside0.mk H
            clear H
            obtain ⟨Z28_0,Z28_1,Z28_2,Z28_3⟩:=zc4 BK140
            obtain ⟨V28_0,V28_1,V28_2,V28_3⟩:=zf4 BK140
            go_wp2_with (first|(go_at_call 84;(with_reducible refine (spec_l05Joined.calls a0_0 a0_1 a0_2 a0_3 x6_2 x5_1 true _ A7.1).mono ?_);rintro e w29 ⟨rfl,hb⟩;refine zA2 (zY BK140.1 hb) (below_step (zH1 HB.1 GE140.1) hb) ?_;clear BK140 HB;intro BK140 HB;(try clear hb);obtain ⟨Z30_0,Z30_1,Z30_2,Z30_3⟩:=zc4 BK140;obtain ⟨V30_0,V30_1,V30_2,V30_3⟩:=zf4 BK140))
            repeat (go_quiet (first|(go_at_call 84;(with_reducible refine (spec_l05Joined.calls a0_0 a0_1 a0_2 a0_3 x6_2 x5_1 true _ A7.1).mono ?_);rintro e w29 ⟨rfl,hb⟩;refine zA2 (zY BK140.1 hb) (below_step (zH1 HB.1 GE140.1) hb) ?_;clear BK140 HB;intro BK140 HB;(try clear hb);obtain ⟨Z30_0,Z30_1,Z30_2,Z30_3⟩:=zc4 BK140;obtain ⟨V30_0,V30_1,V30_2,V30_3⟩:=zf4 BK140));try go_wp2_with (first|(go_at_call 84;(with_reducible refine (spec_l05Joined.calls a0_0 a0_1 a0_2 a0_3 x6_2 x5_1 true _ A7.1).mono ?_);rintro e w29 ⟨rfl,hb⟩;refine zA2 (zY BK140.1 hb) (below_step (zH1 HB.1 GE140.1) hb) ?_;clear BK140 HB;intro BK140 HB;(try clear hb);obtain ⟨Z30_0,Z30_1,Z30_2,Z30_3⟩:=zc4 BK140;obtain ⟨V30_0,V30_1,V30_2,V30_3⟩:=zf4 BK140)))
            go_roundg k2
            case measure=>have:=HK1.1;have:=HK2.1;omega
            case rel=>exact ⟨(wrap64 (x6_2+1)),(zF),H',⟨by have:=HK1.1;have:=HK2.1;omega⟩,⟨zB BK140.1⟩,⟨zH1 HB.1 GE140.1⟩⟩
          ·rw [if_neg c19] at H
           have c19b0:=decide_eq_false c19
           clear c19
           have H':=Aside0.mk H
           clear H
           obtain ⟨Z31_0,Z31_1,Z31_2,Z31_3⟩:=zc4 BK140
           obtain ⟨V31_0,V31_1,V31_2,V31_3⟩:=zf4 BK140
           go_wp2_with (first|(go_at_call 84;(with_reducible refine (spec_l05Joined.calls a0_0 a0_1 a0_2 a0_3 x6_2 x5_1 true _ A7.1).mono ?_);rintro e w32 ⟨rfl,hb⟩;refine zA2 (zY BK140.1 hb) (below_step (zH1 HB.1 GE140.1) hb) ?_;clear BK140 HB;intro BK140 HB;(try clear hb);obtain ⟨Z33_0,Z33_1,Z33_2,Z33_3⟩:=zc4 BK140;obtain ⟨V33_0,V33_1,V33_2,V33_3⟩:=zf4 BK140))
           repeat (go_quiet (first|(go_at_call 84;(with_reducible refine (spec_l05Joined.calls a0_0 a0_1 a0_2 a0_3 x6_2 x5_1 true _ A7.1).mono ?_);rintro e w32 ⟨rfl,hb⟩;refine zA2 (zY BK140.1 hb) (below_step (zH1 HB.1 GE140.1) hb) ?_;clear BK140 HB;intro BK140 HB;(try clear hb);obtain ⟨Z33_0,Z33_1,Z33_2,Z33_3⟩:=zc4 BK140;obtain ⟨V33_0,V33_1,V33_2,V33_3⟩:=zf4 BK140));try go_wp2_with (first|(go_at_call 84;(with_reducible refine (spec_l05Joined.calls a0_0 a0_1 a0_2 a0_3 x6_2 x5_1 true _ A7.1).mono ?_);rintro e w32 ⟨rfl,hb⟩;refine zA2 (zY BK140.1 hb) (below_step (zH1 HB.1 GE140.1) hb) ?_;clear BK140 HB;intro BK140 HB;(try clear hb);obtain ⟨Z33_0,Z33_1,Z33_2,Z33_3⟩:=zc4 BK140;obtain ⟨V33_0,V33_1,V33_2,V33_3⟩:=zf4 BK140)))
           go_roundg k2
           case measure=>have:=HK1.1;have:=HK2.1;omega
           case rel=>exact ⟨(wrap64 (x6_2+1)),(zF),H',⟨by have:=HK1.1;have:=HK2.1;omega⟩,⟨zB BK140.1⟩,⟨zH1 HB.1 GE140.1⟩⟩
         ·rw [if_neg c15] at H
          exact absurd H (by simp)
        ·rw [if_neg c10] at H
         exact absurd H (by simp)
       ·replace c8:=Bool.eq_false_iff.mpr c8
        subst c8
        have H1:(spec_l05Fair.l1 k2 a1 x5_1 (wrap64 (x6_2+1)) a0_0 a0_1 a0_2 a0_3)=some r:=by rw [if_neg (show ¬ (false=true) by decide)] at H;exact H
        clear H
        have H:=H1
        clear H1
        have H':=Aside0.mk H
        clear H
        obtain ⟨Z34_0,Z34_1,Z34_2,Z34_3⟩:=zc4 BK140
        obtain ⟨V34_0,V34_1,V34_2,V34_3⟩:=zf4 BK140
        go_wp2_with (first|(go_at_call 84;(with_reducible refine (spec_l05Joined.calls a0_0 a0_1 a0_2 a0_3 x6_2 x5_1 false _ A7.1).mono ?_);rintro e w35 ⟨rfl,hb⟩;refine zA2 (zY BK140.1 hb) (below_step (zH1 HB.1 GE140.1) hb) ?_;clear BK140 HB;intro BK140 HB;(try clear hb)))
        repeat (go_quiet (first|(go_at_call 84;(with_reducible refine (spec_l05Joined.calls a0_0 a0_1 a0_2 a0_3 x6_2 x5_1 false _ A7.1).mono ?_);rintro e w35 ⟨rfl,hb⟩;refine zA2 (zY BK140.1 hb) (below_step (zH1 HB.1 GE140.1) hb) ?_;clear BK140 HB;intro BK140 HB;(try clear hb)));try go_wp2_with (first|(go_at_call 84;(with_reducible refine (spec_l05Joined.calls a0_0 a0_1 a0_2 a0_3 x6_2 x5_1 false _ A7.1).mono ?_);rintro e w35 ⟨rfl,hb⟩;refine zA2 (zY BK140.1 hb) (below_step (zH1 HB.1 GE140.1) hb) ?_;clear BK140 HB;intro BK140 HB;(try clear hb))))
        go_roundg k2
        case measure=>have:=HK1.1;have:=HK2.1;omega
        case rel=>exact ⟨(wrap64 (x6_2+1)),(zF),H',⟨by have:=HK1.1;have:=HK2.1;omega⟩,⟨zB BK140.1⟩,⟨zH1 HB.1 GE140.1⟩⟩
      ·rw [if_neg c6] at H
       have c6b0:=decide_eq_false c6
       clear c6
       have H':=Aside0.mk H
       clear H
       go_wp2
       repeat (go_quiet (fail);try go_wp2)
       go_roundg k2
       case measure=>have:=HK1.1;have:=HK2.1;omega
       case rel=>exact ⟨(wrap64 (x5_1+1)),(zF),H',⟨by have:=HK1.1;have:=HK2.1;omega⟩,⟨zB BK140.1⟩,⟨zH1 HB.1 GE140.1⟩⟩
   ·rw [if_neg c4] at H
    have c4b0:=decide_eq_false c4
    clear c4
    obtain rfl:=Option.some.inj H
    obtain ⟨Z36_0,Z36_1,Z36_2,Z36_3⟩:=zc4 BK140
    obtain ⟨V36_0,V36_1,V36_2,V36_3⟩:=zf4 BK140
    go_wp2
    repeat (go_quiet (fail);try go_wp2)
    go_ret
    exact ⟨zE,zH1 HB.1 GE140.1⟩
def spec_l05Points.l0:Nat→Int→Int→List Int→Int→Int→Int→Int→Int→Option (List Int)
 |0,_,_,_,_,_,_,_,_=>none
 |k+1,x1,x2,x7,x8,x143000,x143001,x143002,x143003=>if x8<x143000 then (if 0≤(IntKind.u64.wrap (x8)) then (if (Go.bits .and .i64 (shr .i64 (Go.bits .or .i64 x143002 x143003) (IntKind.u64.wrap (x8))) 1)=0 then ((spec_l05Move.f x143000 x143001 x143002 x143003 x2 x8).bind fun bt146=>((spec_l05Fair.f k bt146.1 bt146.2.1 bt146.2.2.1 bt146.2.2.2 x1).bind fun t150=>(if t150=true then (if x7.length<17592186044416 then (spec_l05Points.l0 k x1 x2 (x7++[x8]) (wrap64 (x8+1)) x143000 x143001 x143002 x143003) else (none)) else (spec_l05Points.l0 k x1 x2 x7 (wrap64 (x8+1)) x143000 x143001 x143002 x143003)))) else (spec_l05Points.l0 k x1 x2 x7 (wrap64 (x8+1)) x143000 x143001 x143002 x143003)) else (none)) else (some x7)
def spec_l05Points.f (k:Nat) (a0_0:Int) (a0_1:Int) (a0_2:Int) (a0_3:Int) (a1:Int) (a2:Int):Option (List Int):=spec_l05Points.l0 k a1 a2 (([]:List Int)) 0 a0_0 a0_1 a0_2 a0_3
theorem spec_l05Points.calls (k:Nat) (a0_0:Int) (a0_1:Int) (a0_2:Int) (a0_3:Int) (a1:Int) (a2:Int) (r:List Int) (w:World) (h:spec_l05Points.f k a0_0 a0_1 a0_2 a0_3 a1 a2=some r):
 Calls Tryz.prog 35 #[.agg #[.int .i64 a0_0,.int .i64 a0_1,.int .i64 a0_2,.int .i64 a0_3],.int .i64 a1,.int .i64 a2] w fun e w'=>∃ v0_:Value,e=.returned (v0_)∧Kd.R (Kd.int .i64) 2 w' w.heap.size (fun _=>True) v0_ r∧Below w.heap.size w w':=by
 have hu25:=Tryz.underlying25
 have HB:=Aside0.mk (Below.refl w.heap.size w)
 have H:(spec_l05Points.l0 k a1 a2 (([]:List Int)) 0 a0_0 a0_1 a0_2 a0_3)=some r:=h
 clear h
 obtain ⟨y143,hy143⟩:∃ y_:List Int,y_=(([]:List Int)):=⟨_,rfl⟩
 replace H:(spec_l05Points.l0 k a1 a2 y143 0 a0_0 a0_1 a0_2 a0_3)=some r:=by first|(rw [hy143];with_reducible exact H)|(have H2_:=(Option.bind_some _ _).symm.trans H;rw [hy143];with_reducible exact H2_)|(have H2_:=(Option.bind_some _ _).symm.trans H;with_reducible exact H2_)|with_reducible exact H|(rw [hy143];exact H)|exact H
 have Ny143:=Aside0.mk hy143
 clear hy143
 have H':=Aside0.mk H
 clear H
 go_enter Tryz.func35,Tryz.ntmps35
 go_wp2_with (first|((with_reducible refine gate_dst (N:=3) rfl ?_);refine zX 3 #[.int .i64 a0_0,.int .i64 a0_1,.int .i64 a0_2,.int .i64 a0_3] 25 ?_;intro gb142 hg w4 hbox hb;refine zA4 (below_step (zH HB.1) hb) (hbox) (zs hg HB:w.heap.size≤gb142) (zs hg HB:w.heap.size≤gb142) ?_;clear HB;intro HB BK142 GW142 GE142;clear hb hbox hg)|((with_reducible refine gate_dst (N:=9) rfl ?_);refine Kd.R_lit (Kd.int .i64) _ 2 ?hg (N:=9) ?hd (xs:=([]:List Int)) (inner:=[]) (ok:=fun _=>True) (okp:=fun _=>True) ?hr ?hp (fun _ hk=>hk) trivial (Below.refl _ _) (Nat.le_refl _) (by simp) ?_;(case hd=>rfl);(case hg=>rfl);(case hr=>first|(go_simp;done)|(go_simp;rfl));(case hp=>exact (Reps.none _ _));intro v144 w5 ho6 hb hg_ hnew_;clear hg_ hnew_;(first|rw [← Ny143.1] at ho6|(simp only [Int.reduceToNat] at ho6;rw [← Ny143.1] at ho6));refine zA3 (Kd.R_lower ho6 (below_size (zH1 HB.1 GE142.1))) (zY BK142.1 hb) (below_step (zH1 HB.1 GE142.1) hb) ?_;clear BK142 HB;intro HO145 BK142 HB;clear hb ho6))
 go_loopg [7,8] k (fun kq v7 v8 w'=>∃ (x7_1:List Int) (x8_1:Int),v8=.int .i64 x8_1∧Aside0 (spec_l05Points.l0 kq a1 a2 x7_1 x8_1 a0_0 a0_1 a0_2 a0_3=some r)∧Aside0 (kq≤k)∧Aside0 (Kd.R (Kd.int .i64) 2 w' w.heap.size (fun _=>True) v7 x7_1)∧Aside0 (w'.heap[gb142]?=some (.cells #[.int .i64 a0_0,.int .i64 a0_1,.int .i64 a0_2,.int .i64 a0_3] 25 (0,0)))∧Aside0 (Below w.heap.size w w'))
 case atStart=>exact ⟨(y143),(0),(zF),H',⟨Nat.le_refl _⟩,⟨zR HO145.1⟩,⟨zB BK142.1⟩,⟨zH1 HB.1 GE142.1⟩⟩
 case round=>
  clear H'
  try clear p2
  try clear c3
  obtain ⟨x7_1,x8_1,rfl,HA,HK1,HO_7,BK142,HB⟩:=hrel
  cases gk with
  |zero=>exact absurd HA.1 (by simp [spec_l05Points.l0])
  |succ k1=>
   have H:=HA.1
   clear HA
   simp only [spec_l05Points.l0] at H
   by_cases c7:x8_1<a0_0
   ·rw [if_pos c7] at H
    have c7b0:=decide_eq_true c7
    clear c7
    obtain ⟨ji8,hji8⟩:=zj (IntKind.u64.wrap (x8_1))
    (first|rw [hji8] at H|simp only [hji8] at H)
    by_cases c9:0≤(ji8)
    ·rw [if_pos c9] at H
     have c9b0:=eq_true c9
     have c9b1:=decide_eq_true c9
     clear c9
     obtain ⟨ji10,hji10⟩:=zj (shr .i64 (Go.bits .or .i64 a0_2 a0_3) (ji8))
     (first|rw [hji10] at H|simp only [hji10] at H)
     have hji10_:((Go.bits .or .i64 a0_2 a0_3)/2 ^ min (ji8).toNat 64)=ji10:=hji10
     have hji10z:(ji8)≤64→((Go.bits .or .i64 a0_2 a0_3)/2 ^ (ji8).toNat)=ji10:=shr_small hji10
     by_cases c11:(Go.bits .and .i64 (ji10) 1)=0
     ·rw [if_pos c11] at H
      have c11b0:=zq1 c11
      have c11b1:=zq2 c11
      clear c11
      obtain ⟨⟨t146,t147,t148,t149⟩,A12,H⟩:=zb H;(try dsimp only at H)
      obtain ⟨t150,A13,H⟩:=zb H
      by_cases c14:t150=true
      ·subst c14
       have H1:(if x7_1.length<17592186044416 then (spec_l05Points.l0 k1 a1 a2 (x7_1++[x8_1]) (wrap64 (x8_1+1)) a0_0 a0_1 a0_2 a0_3) else (none))=some r:=by rw [if_pos rfl] at H;exact H
       clear H
       have H:=H1
       clear H1
       by_cases c15:x7_1.length<17592186044416
       ·rw [if_pos c15] at H
        have LMc15:=Aside0.mk c15
        clear c15
        obtain ⟨y151,hy151⟩:∃ y_:List Int,y_=(x7_1++[x8_1]):=⟨_,rfl⟩
        replace H:(spec_l05Points.l0 k1 a1 a2 y151 (wrap64 (x8_1+1)) a0_0 a0_1 a0_2 a0_3)=some r:=by first|(rw [hy151];with_reducible exact H)|(have H2_:=(Option.bind_some _ _).symm.trans H;rw [hy151];with_reducible exact H2_)|(have H2_:=(Option.bind_some _ _).symm.trans H;with_reducible exact H2_)|with_reducible exact H|(rw [hy151];exact H)|exact H
        have Ny151:=Aside0.mk hy151
        clear hy151
        have H':=Aside0.mk H
        clear H
        obtain ⟨Z16_0,Z16_1,Z16_2,Z16_3⟩:=zc4 BK142
        obtain ⟨V16_0,V16_1,V16_2,V16_3⟩:=zf4 BK142
        go_wp2_with (first|(go_at_call 36;(with_reducible refine (spec_l05Move.calls a0_0 a0_1 a0_2 a0_3 a2 x8_1 t146 t147 t148 t149 _ A12.1).mono ?_);rintro e w17 ⟨rfl,hb⟩;refine zA3 (Kd.R_below (zR HO_7.1) hb) (zY BK142.1 hb) (below_step (zH1 HB.1 GE142.1) hb) ?_;clear HO_7 BK142 HB;intro HO_7 BK142 HB;(try clear hb);(try clear hk))|(go_at_call 76;(with_reducible refine (spec_l05Fair.calls k1 t146 t147 t148 t149 a1 true _ A13.1).mono ?_);rintro e w18 ⟨rfl,hb⟩;refine zA3 (Kd.R_below (zR HO_7.1) hb) (zY BK142.1 hb) (below_step (zH1 HB.1 GE142.1) hb) ?_;clear HO_7 BK142 HB;intro HO_7 BK142 HB;(try clear hb);(try clear hk))|((with_reducible refine gate_builtin (b:=.append) (xs:=#[.tmp 34,.tmp 36]) rfl ?_);at_builtin;refine Kd.R_append (Kd.int .i64) (w0:=w) w.heap.size rfl (.tmp 34) (.tmp 36) 28 2 (.int .i64 0) 8 rfl Tryz.underlying28 info2 rfl (by decide) (by omega) u7 x7_1 x8_1 [.int .i64 x8_1] (fun _=>True) (fun _=>False) rfl rfl ?aP (fun _ hk=>hk.elim) ?aF ?aO ?aB ?aS ?aL ?_;(case aP=>exact rfl);(case aB=>exact (zH1 HB.1 GE142.1));(case aF=>exact (fun _ _=>trivial));(case aO=>exact (zR HO_7.1));(case aS=>exact (below_size (zH1 HB.1 GE142.1)));(case aL=>have:=LMc15.1;omega);intro v152 w19 ho hb hg hat;rw [← Ny151.1] at ho;refine zA3 (blk_grown (g:=gb142) (o:=.cells #[.int .i64 a0_0,.int .i64 a0_1,.int .i64 a0_2,.int .i64 a0_3] 25 (0,0)) (zB BK142.1) hg (Kd.R_ne HO_7.1 BK142.1 (by decide))) (hb) (ho) ?_;clear BK142 HB HO_7;intro BK142 HB HO153;clear ho hb hg hat))
        go_roundg k1
        case measure=>have:=HK1.1;omega
        case rel=>exact ⟨(y151),(wrap64 (x8_1+1)),(zF),H',⟨by have:=HK1.1;omega⟩,⟨zR HO153.1⟩,⟨zB BK142.1⟩,⟨zH1 HB.1 GE142.1⟩⟩
       ·rw [if_neg c15] at H
        exact absurd H (by simp)
      ·replace c14:=Bool.eq_false_iff.mpr c14
       subst c14
       have H1:(spec_l05Points.l0 k1 a1 a2 x7_1 (wrap64 (x8_1+1)) a0_0 a0_1 a0_2 a0_3)=some r:=by rw [if_neg (show ¬ (false=true) by decide)] at H;exact H
       clear H
       have H:=H1
       clear H1
       have H':=Aside0.mk H
       clear H
       obtain ⟨Z20_0,Z20_1,Z20_2,Z20_3⟩:=zc4 BK142
       obtain ⟨V20_0,V20_1,V20_2,V20_3⟩:=zf4 BK142
       go_wp2_with (first|(go_at_call 36;(with_reducible refine (spec_l05Move.calls a0_0 a0_1 a0_2 a0_3 a2 x8_1 t146 t147 t148 t149 _ A12.1).mono ?_);rintro e w21 ⟨rfl,hb⟩;refine zA3 (Kd.R_below (zR HO_7.1) hb) (zY BK142.1 hb) (below_step (zH1 HB.1 GE142.1) hb) ?_;clear HO_7 BK142 HB;intro HO_7 BK142 HB;(try clear hb))|(go_at_call 76;(with_reducible refine (spec_l05Fair.calls k1 t146 t147 t148 t149 a1 false _ A13.1).mono ?_);rintro e w22 ⟨rfl,hb⟩;refine zA3 (Kd.R_below (zR HO_7.1) hb) (zY BK142.1 hb) (below_step (zH1 HB.1 GE142.1) hb) ?_;clear HO_7 BK142 HB;intro HO_7 BK142 HB;(try clear hb)))
       go_roundg k1
       case measure=>have:=HK1.1;omega
       case rel=>exact ⟨(x7_1),(wrap64 (x8_1+1)),(zF),H',⟨by have:=HK1.1;omega⟩,⟨zR HO_7.1⟩,⟨zB BK142.1⟩,⟨zH1 HB.1 GE142.1⟩⟩
     ·rw [if_neg c11] at H
      have c11b0:=zq3 c11
      have c11b1:=zq4 c11
      have H':=Aside0.mk H
      clear H
      obtain ⟨Z23_0,Z23_1,Z23_2,Z23_3⟩:=zc4 BK142
      obtain ⟨V23_0,V23_1,V23_2,V23_3⟩:=zf4 BK142
      go_wp2
      go_roundg k1
      case measure=>have:=HK1.1;omega
      case rel=>exact ⟨(x7_1),(wrap64 (x8_1+1)),(zF),H',⟨by have:=HK1.1;omega⟩,⟨zR HO_7.1⟩,⟨zB BK142.1⟩,⟨zH1 HB.1 GE142.1⟩⟩
    ·rw [if_neg c9] at H
     exact absurd H (by simp)
   ·rw [if_neg c7] at H
    have c7b0:=decide_eq_false c7
    clear c7
    obtain rfl:=Option.some.inj H
    obtain ⟨Z24_0,Z24_1,Z24_2,Z24_3⟩:=zc4 BK142
    obtain ⟨V24_0,V24_1,V24_2,V24_3⟩:=zf4 BK142
    go_wp2
    go_ret
    exact ⟨_,zE,by (with_reducible repeat (first|apply Kd.R_alloc|apply Kd.R_drewN|apply Kd.R_drew));exact HO_7.1,zH1 HB.1 GE142.1⟩
end Go.Proofs.YtlmohkbimnhecaaGreat.Q
