/-
  fieldWins: the function that it makes tells who wins, whatever has been stored before, as long as what is stored is right. Fields of P points with the lines L, as far as 'winsF' goes.
-/
import Derived.Test.YtlmohkbimnhecaaGreatWinsCode
import Derived.Test.YtlmohkbimnhecaaGreatHof
import Derived.DeepKeys4
namespace Go.Proofs.YtlmohkbimnhecaaGreat.Q
open Go.RowKit Go.Proofs.YtlmohkbimnhecaaGreatW.PrintWords Go.Proofs.YtlmohkbimnhecaaGreatW.PrintLast Go.Proofs.YtlmohkbimnhecaaGreatW.PrintMore
open Go.Maps (Keyed)
theorem laidMap:laidOutB Tryz.prog=true:=by kernel_rfl
theorem standLaw:Keyed Tryz.prog 58:=Keyed.of_law (deep_law_laid laidMap (m:=5) (by decide) (of_decide_eq_true (by kernel_rfl)) (by kernel_rfl) (by kernel_rfl))
def stV (P L R B p:Int):Value:=.agg #[.int .i64 P,.int .i64 L,.int .i64 R,.int .i64 B,.int .i64 p]
theorem stand_key (P L R B p:Int) (h0:okI P) (h1:okI L) (h2:okI R) (h3:okI B) (h4:okI p):∃ l,keyOf Tryz.prog 58 (stV P L R B p)=some l:=by
 unfold okI at h0 h1 h2 h3 h4
 have e:keyOf Tryz.prog 58 (stV P L R B p)=(Tryz.prog.keyLits (Tryz.prog.types.size+1) 58 [.int .i64 P,.int .i64 L,.int .i64 R,.int .i64 B,.int .i64 p]).map fun ls=>.string (keyBytes ls):=by kernel_rfl
 have hz:Tryz.prog.types.size+1=(Tryz.prog.types.size-2)+3:=by
  have:2≤Tryz.prog.types.size:=of_decide_eq_true (by kernel_rfl)
  omega
 rw [e,hz]
 generalize Tryz.prog.types.size-2=n
 have c1:Tryz.prog.cellsOf 58=5:=by kernel_rfl
 have c2:Tryz.prog.cellsOf 25=4:=by kernel_rfl
 have c3:Tryz.prog.cellsOf 2=1:=by kernel_rfl
 simp [Program.keyLits,Tryz.underlying58,Tryz.underlying25,Tryz.underlying2,c1,c2,c3,h0,h1,h2,h3,h4]
 rw [if_pos (by decide)]
 exact ⟨_,rfl⟩
def goodW (k:Nat) (g P L:Int) (key v:Value):Prop:=∃ (R B p:Int) (d:Nat) (r:Bool),key=stV P L R B p∧v=.bool r∧winsF k g P L d R B p=some r
def codeW (v:Value):Nat:=match v with
 | .agg cs=>(intOf (cs.getD 2 undef)).toNat*2097152+(intOf (cs.getD 3 undef)).toNat*2+(intOf (cs.getD 4 undef)).toNat
 |_=>0
theorem codeW_st (P L R B p:Int):codeW (stV P L R B p)=R.toNat*2097152+B.toNat*2+p.toNat:=rfl
theorem goodW_few (k:Nat) (g P L:Int):Few (goodW k g P L):=by
 refine ⟨codeW,1048576*2097152,by decide,?_,?_⟩
 ·rintro _ _ ⟨R,B,p,d,r,rfl,rfl,h⟩
  obtain ⟨_,_,h2,h3,h4⟩:=winsF_ok k g P L d R B p r h
  rw [codeW_st]
  omega
 ·rintro _ _ _ _ ⟨R,B,p,d,r,rfl,rfl,h⟩ ⟨R',B',p',d',r',rfl,rfl,h'⟩ e
  obtain ⟨_,_,h2,h3,h4⟩:=winsF_ok k g P L d R B p r h
  obtain ⟨_,_,k2,k3,k4⟩:=winsF_ok k g P L d' R' B' p' r' h'
  rw [codeW_st,codeW_st] at e
  obtain rfl:R=R':=by omega
  obtain rfl:B=B':=by omega
  obtain rfl:p=p':=by omega
  rfl
structure EnvW (k:Nat) (g P L:Int) (gk gg gf b:Nat) (w:World):Prop where
 known:w.heap[gk]?=some (.cells #[.map (some b)] 103 (0,0))
 game:w.heap[gg]?=some (.cells #[.int .i64 g] 2 (0,0))
 find:w.heap[gf]?=some (.cells #[.func (.func 66) #[] #[.pointer (some ⟨gk,0,none⟩),.pointer (some ⟨gg,0,none⟩),.pointer (some ⟨gf,0,none⟩)]] 55 (0,0))
 memo:Memo Tryz.prog 58 (goodW k g P L) w b
theorem lt_of_block {w:World} {i:Nat} {o:Obj} (h:w.heap[i]?=some o):i<w.heap.size:=(Array.getElem?_eq_some_iff.1 h).1
theorem Memo.ne {P:Program} {q:TypeId} {good:Value→Value→Prop} {w:World} {b i:Nat} {cs:Array Value} {t:TypeId} {f:Nat×Nat} (h:Memo P q good w b) (hi:w.heap[i]?=some (.cells cs t f)):some i≠some b:=by
 obtain ⟨es,clock,hb,_⟩:=h
 intro e
 obtain rfl:=Option.some.inj e
 rw [hb] at hi
 cases hi
section
variable {k:Nat} {g P L:Int} {gk gg gf b:Nat} {w w':World}
theorem EnvW.grown (h:EnvW k g P L gk gg gf b w) (hg:w.grownBy w' (some b)) (hm:Memo Tryz.prog 58 (goodW k g P L) w' b):EnvW k g P L gk gg gf b w':=
 ⟨(hg.block gk (lt_of_block h.known) (h.memo.ne h.known)).trans h.known,(hg.block gg (lt_of_block h.game) (h.memo.ne h.game)).trans h.game,(hg.block gf (lt_of_block h.find) (h.memo.ne h.find)).trans h.find,hm⟩
theorem EnvW.below (h:EnvW k g P L gk gg gf b w) (hb:Below w.heap.size w w'):EnvW k g P L gk gg gf b w':=
 ⟨(hb.block gk (lt_of_block h.known)).trans h.known,(hb.block gg (lt_of_block h.game)).trans h.game,(hb.block gf (lt_of_block h.find)).trans h.find,h.memo.below hb⟩
end
def FindW (k:Nat) (g P L:Int) (d:Nat):Prop:=∀ (R B p:Int) (r:Bool) (W:World) (gk gg gf b:Nat),EnvW k g P L gk gg gf b W→winsF k g P L d R B p=some r →
 Calls Tryz.prog 66 #[.agg #[.int .i64 P,.int .i64 L,.int .i64 R,.int .i64 B,.int .i64 p],.pointer (some ⟨gk,0,none⟩),.pointer (some ⟨gg,0,none⟩),.pointer (some ⟨gf,0,none⟩)] W fun e w'=>e=.returned (.bool r)∧EnvW k g P L gk gg gf b w'∧W.grownBy w' (some b)
def predW (k:Nat) (g P L:Int) (d:Nat) (R B p i:Int):Option Bool:=(impl_Field_coloured.f P L R B p i).bind fun m=>(winsF k g P L d m.2.2.1 m.2.2.2 (wrap64 (1-p))).bind fun b=>some (!b)
def InvW (k:Nat) (g P L:Int) (gk gg gf b gs:Nat) (R B p:Int) (w:World):Prop:=EnvW k g P L gk gg gf b w∧w.heap[gs]?=some (.cells #[.int .i64 P,.int .i64 L,.int .i64 R,.int .i64 B,.int .i64 p] 58 (0,0))
theorem InvW.grown {k:Nat} {g P L:Int} {gk gg gf b gs:Nat} {R B p:Int} {w w':World} (h:InvW k g P L gk gg gf b gs R B p w) (hg:w.grownBy w' (some b)) (he:EnvW k g P L gk gg gf b w'):InvW k g P L gk gg gf b gs R B p w':=
 ⟨he,(hg.block gs (lt_of_block h.2) (h.1.memo.ne h.2)).trans h.2⟩
theorem InvW.below {k:Nat} {g P L:Int} {gk gg gf b gs:Nat} {R B p:Int} {w w':World} (h:InvW k g P L gk gg gf b gs R B p w) (hb:Below w.heap.size w w'):InvW k g P L gk gg gf b gs R B p w':=
 ⟨h.1.below hb,(hb.block gs (lt_of_block h.2)).trans h.2⟩
theorem inv_env {k:Nat} {g P L:Int} {gk gg gf b gs:Nat} {R B p:Int} {a w:World} (h:Aside0 (InvW k g P L gk gg gf b gs R B p w∧a.grownBy w (some b))):EnvW k g P L gk gg gf b w:=h.out.1.1
theorem inv_step {k:Nat} {g P L:Int} {gk gg gf b gs:Nat} {R B p:Int} {a w w':World} (h:Aside0 (InvW k g P L gk gg gf b gs R B p w∧a.grownBy w (some b))) (hb:Below w.heap.size w w'):InvW k g P L gk gg gf b gs R B p w'∧a.grownBy w' (some b):=
 ⟨h.out.1.below hb,grown_then h.out.2 (grown_below hb)⟩
theorem inv_find {k:Nat} {g P L:Int} {gk gg gf b gs:Nat} {R B p:Int} {a w w':World} (h:Aside0 (InvW k g P L gk gg gf b gs R B p w∧a.grownBy w (some b))) (he:EnvW k g P L gk gg gf b w') (hg:w.grownBy w' (some b)):InvW k g P L gk gg gf b gs R B p w'∧a.grownBy w' (some b):=
 ⟨h.out.1.grown hg he,grown_then h.out.2 hg⟩
theorem inv_cells {k:Nat} {g P L:Int} {gk gg gf b gs:Nat} {R B p:Int} {a w':World} (h:InvW k g P L gk gg gf b gs R B p w'∧a.grownBy w' (some b)):
 w'.cell? ⟨gf,0,none⟩=some (.func (.func 66) #[] #[.pointer (some ⟨gk,0,none⟩),.pointer (some ⟨gg,0,none⟩),.pointer (some ⟨gf,0,none⟩)])∧w'.cell? ⟨gs,0,none⟩=some (.int .i64 P)∧w'.cell? ⟨gs,1,none⟩=some (.int .i64 L)∧w'.cell? ⟨gs,2,none⟩=some (.int .i64 R)∧w'.cell? ⟨gs,3,none⟩=some (.int .i64 B)∧w'.cell? ⟨gs,4,none⟩=some (.int .i64 p)∧Aside0 (InvW k g P L gk gg gf b gs R B p w'∧a.grownBy w' (some b)):=
 ⟨blk_cell h.1.1.find 0,blk_cell h.1.2 0,blk_cell h.1.2 1,blk_cell h.1.2 2,blk_cell h.1.2 3,blk_cell h.1.2 4,⟨h⟩⟩
set_option linter.unusedSimpArgs false
set_option maxRecDepth 100000
set_option maxHeartbeats 4000000 in
theorem wins_pred (k:Nat) (g P L:Int) (d:Nat) (ih:FindW k g P L d) (gk gg gf b gs:Nat) (R B p:Int):
 PredInv 68 #[.pointer (some ⟨gf,0,none⟩),.pointer (some ⟨gs,0,none⟩)] (predW k g P L d R B p) (InvW k g P L gk gg gf b gs R B p) (some b):=by
 intro x r W h hI
 rw [show (#[Value.int .i64 x]++#[Value.pointer (some ⟨gf,0,none⟩),.pointer (some ⟨gs,0,none⟩)]:Array Value)=#[.int .i64 x,.pointer (some ⟨gf,0,none⟩),.pointer (some ⟨gs,0,none⟩)] from rfl]
 obtain ⟨m,hm,h⟩:=Option.bind_eq_some_iff.1 h
 obtain ⟨q,hq,h⟩:=Option.bind_eq_some_iff.1 h
 obtain rfl:=Option.some.inj h
 have e:=coloured_form P L R B p x m hm
 generalize m.2.2.1=R1 at e hq
 generalize m.2.2.2=B1 at e hq
 subst e
 have HM:=Aside0.mk hm
 have HQ:Aside0 (winsF k g P L d R1 B1 (IntKind.i64.wrap (1-p))=some q):=⟨by rw [IntKind.wrap_i64];unfold wrap64 at hq;exact hq⟩
 have HI:=Aside0.mk (And.intro hI (grown_refl W (some b)))
 have HF:=Aside0.mk ih
 have hcf:W.cell? ⟨gf,0,none⟩=some (.func (.func 66) #[] #[.pointer (some ⟨gk,0,none⟩),.pointer (some ⟨gg,0,none⟩),.pointer (some ⟨gf,0,none⟩)]):=blk_cell hI.1.find 0
 have hc0:W.cell? ⟨gs,0,none⟩=some (.int .i64 P):=blk_cell hI.2 0
 have hc1:W.cell? ⟨gs,1,none⟩=some (.int .i64 L):=blk_cell hI.2 1
 have hc2:W.cell? ⟨gs,2,none⟩=some (.int .i64 R):=blk_cell hI.2 2
 have hc3:W.cell? ⟨gs,3,none⟩=some (.int .i64 B):=blk_cell hI.2 3
 have hc4:W.cell? ⟨gs,4,none⟩=some (.int .i64 p):=blk_cell hI.2 4
 have hu:=Tryz.underlying25
 have hu2:=Tryz.underlying58
 clear hm hq h hI ih
 go_enter Tryz.func68,Tryz.ntmps68
 go_wp2_with fail
 go_region_held3 (fun w'=>w'.cell? ⟨gf,0,none⟩=some (.func (.func 66) #[] #[.pointer (some ⟨gk,0,none⟩),.pointer (some ⟨gg,0,none⟩),.pointer (some ⟨gf,0,none⟩)])∧w'.cell? ⟨gs,0,none⟩=some (.int .i64 P)∧w'.cell? ⟨gs,1,none⟩=some (.int .i64 L)∧w'.cell? ⟨gs,2,none⟩=some (.int .i64 R)∧w'.cell? ⟨gs,3,none⟩=some (.int .i64 B)∧w'.cell? ⟨gs,4,none⟩=some (.int .i64 p)∧Aside0 (InvW k g P L gk gg gf b gs R B p w'∧W.grownBy w' (some b)))
  (first
   |exact ⟨hcf,hc0,hc1,hc2,hc3,hc4,⟨HI.out.1.below (below_drew (Below.refl _ _)),grown_drew HI.out.2⟩⟩
   |(go_split_ands;exact inv_cells (inv_step (by assumption) hb'))
   |(go_split_ands;exact inv_cells (inv_find (by assumption) (by assumption) (by assumption))))
  (first|(go_at_call 31;refine (impl_Field_coloured.calls P L R B p x P L R1 B1 _ HM.out).mono ?_;rintro e w' ⟨rfl,hb'⟩)|(go_at_call 66;go_split_ands;refine (HF.out R1 B1 (IntKind.i64.wrap (1-p)) q _ gk gg gf b (inv_env (by assumption)) HQ.out).mono ?_;rintro e w' ⟨rfl,he',hg'⟩))
 go_wp2
 go_ret
 rename_i hH
 exact ⟨rfl,hH.2.2.2.2.2.2.out.1,hH.2.2.2.2.2.2.out.2⟩
theorem zero_bool (w:World):(zeroValue 4).run Tryz.prog w=.ok (.bool false) w:=by kernel_rfl
theorem stV_inj {P L R B p R' B' p':Int} (h:stV P L R B p=stV P L R' B' p'):R=R'∧B=B'∧p=p':=by
 unfold stV at h
 simp at h
 exact h
theorem own_stays {w W:World} {b e:Nat} {A:Option Addr} {c:Nat} {l:List Int} {w1:World} (h:Kd.R (Kd.int .i64) e w w1.heap.size (fun _=>True) (.slice A l.length c) l) (hb:b<w1.heap.size) (hg:w.grownBy W (some b)):Kd.C (Kd.int .i64) W A l.length l:=
 (Kd.R_reads' (Kd.R_grown (Kd.R_bound h) hg (fun k hk e=>by have:=hk.2.1;have:=Option.some.inj e;omega))).2.2
set_option maxHeartbeats 4000000 in
theorem find_step (k:Nat) (g P L:Int) (d:Nat) (ih:FindW k g P L d):FindW k g P L (d+1):=by
 intro R B p r W gk gg gf b hE h0
 have h:=h0
 simp only [winsF] at h
 split at h
 rotate_left
 ·cases h
 rename_i hok
 obtain ⟨l,hl,h⟩:=Option.bind_eq_some_iff.1 h
 split at h
 rotate_left
 ·cases h
 rename_i hlen
 obtain ⟨kl,hkey⟩:=stand_key P L R B p hok.1 hok.2.1 (WalkArith.wf_i64 (by have:=hok.2.2.1;omega)) (WalkArith.wf_i64 (by have:=hok.2.2.2.1;omega)) (WalkArith.wf_i64 (by have:=hok.2.2.2.2;omega))
 generalize hw1:W.alloc (.cells #[.int .i64 P,.int .i64 L,.int .i64 R,.int .i64 B,.int .i64 p] 58)=w1
 have HB1:Aside0 (Below W.heap.size W w1):=⟨by rw [← hw1];exact (Below.refl _ _).alloc (Nat.le_refl _) _⟩
 have HI1:Aside0 (InvW k g P L gk gg gf b W.heap.size R B p w1):=⟨hE.below HB1.out,by rw [← hw1];simpa using heap_alloc_new W (.cells #[.int .i64 P,.int .i64 L,.int .i64 R,.int .i64 B,.int .i64 p] 58)⟩
 have hck:w1.cell? ⟨gk,0,none⟩=some (.map (some b)):=blk_cell HI1.out.1.known 0
 have hcg:w1.cell? ⟨gg,0,none⟩=some (.int .i64 g):=blk_cell HI1.out.1.game 0
 have hc0:w1.cell? ⟨W.heap.size,0,none⟩=some (.int .i64 P):=blk_cell HI1.out.2 0
 have hc1:w1.cell? ⟨W.heap.size,1,none⟩=some (.int .i64 L):=blk_cell HI1.out.2 1
 have hc2:w1.cell? ⟨W.heap.size,2,none⟩=some (.int .i64 R):=blk_cell HI1.out.2 2
 have hc3:w1.cell? ⟨W.heap.size,3,none⟩=some (.int .i64 B):=blk_cell HI1.out.2 3
 have hc4:w1.cell? ⟨W.heap.size,4,none⟩=some (.int .i64 p):=blk_cell HI1.out.2 4
 have hu:=Tryz.underlying25
 have hu2:=Tryz.underlying58
 have hlook:=HI1.out.1.memo.look standLaw Tryz.underlying103 (zero_bool w1) hkey
 unfold stV at hlook
 rcases hlook with hmiss|⟨v,hhit,hgood⟩
 ·have HL:=Aside0.mk hl
  have HA:Aside0 (anyF (predW k g P L d R B p) l=some r):=⟨h⟩
  have HF:=Aside0.mk ih
  have HK:=Aside0.mk hkey
  have HG:Aside0 (goodW k g P L (stV P L R B p) (.bool r)):=⟨⟨R,B,p,d+1,r,rfl,rfl,h0⟩⟩
  clear h h0 hl hlen hok hkey hE ih
  go_enter Tryz.func66,Tryz.ntmps66
  go_wp2_with (first
   |(go_at_call 30;refine (impl_Field_points.calls k P L R B g p l _ HL.out).mono ?_;rintro e w2 ⟨v2,rfl,ho2,hb2⟩;obtain ⟨A2,c2,rfl,hl2,hC2⟩:=Kd.R_reads ho2)
   |(go_at_call 67;refine (containsFunc_inv 68 _ (enters_of Tryz.func68 (by kernel_rfl) rfl) (predW k g P L d R B p) (InvW k g P L gk gg gf b W.heap.size R B p) (some b) _ _ l r _ (wins_pred k g P L d HF.out gk gg gf b W.heap.size R B p) (fun W' hg=>own_stays ho2 HI1.out.1.memo.lt hg) (HI1.out.below hb2) hl2 hC2.2.1 HA.out).mono ?_;rintro e w3 ⟨rfl,hg3,hi3⟩;have hck3:=blk_cell hi3.1.known 0;have hd0:=blk_cell hi3.2 0;have hd1:=blk_cell hi3.2 1;have hd2:=blk_cell hi3.2 2;have hd3:=blk_cell hi3.2 3;have hd4:=blk_cell hi3.2 4)
   |(at_mapUpdate;refine wpList_mapUpdate_memo _ rfl _ _ _ 103 rfl 58 4 standLaw Tryz.underlying103 (goodW k g P L) b rfl hi3.1.memo (goodW_few k g P L) _ _ kl rfl rfl HK.out HG.out ?_;intro w4 hm4 hg4))
  go_ret
  exact ⟨rfl,hi3.1.grown hg4 hm4,grown_then (grown_then (grown_below (below_then HB1.out HB1.out.size hb2)) hg3) hg4⟩
 ·obtain ⟨R',B',p',d',r',e,rfl,hw⟩:=hgood
  obtain ⟨rfl,rfl,rfl⟩:=stV_inj e
  obtain rfl:=winsF_one k g P L _ _ R B p r r' h0 hw
  clear h h0 hw e hl hlen hok hkey hE ih
  go_enter Tryz.func66,Tryz.ntmps66
  go_wp2_with fail
  go_ret
  exact ⟨rfl,HI1.out.1,grown_below HB1.out⟩
theorem find_at (k:Nat) (g P L:Int) (d:Nat):FindW k g P L d:=by
 induction d with
 |zero=>intro R B p r W gk gg gf b _ h;cases h
 |succ d ih=>exact find_step k g P L d ih
theorem allocs4 (w:World) (o0 o1 o2 o3:Obj):((((w.alloc o0).alloc o1).alloc o2).alloc o3).heap[w.heap.size]?=some o0∧((((w.alloc o0).alloc o1).alloc o2).alloc o3).heap[w.heap.size+1]?=some o1 ∧
 ((((w.alloc o0).alloc o1).alloc o2).alloc o3).heap[w.heap.size+2]?=some o2∧((((w.alloc o0).alloc o1).alloc o2).alloc o3).heap[w.heap.size+3]?=some o3∧Below w.heap.size w ((((w.alloc o0).alloc o1).alloc o2).alloc o3):=by
 refine ⟨?_,?_,?_,?_,((((Below.refl _ _).alloc (Nat.le_refl _) _).alloc (by simp<;>omega) _).alloc (by simp<;>omega) _).alloc (by simp<;>omega) _⟩
 ·rw [(MapKept.heap_alloc _ _).2 _ (by simp<;>omega),(MapKept.heap_alloc _ _).2 _ (by simp<;>omega),(MapKept.heap_alloc _ _).2 _ (by simp)]
  exact (MapKept.heap_alloc w o0).1
 ·rw [(MapKept.heap_alloc _ _).2 _ (by simp<;>omega),(MapKept.heap_alloc _ _).2 _ (by simp<;>omega)]
  simpa using (MapKept.heap_alloc (w.alloc o0) o1).1
 ·rw [(MapKept.heap_alloc _ _).2 _ (by simp<;>omega)]
  simpa using (MapKept.heap_alloc ((w.alloc o0).alloc o1) o2).1
 ·simpa using (MapKept.heap_alloc (((w.alloc o0).alloc o1).alloc o2) o3).1
theorem Memo.new {P:Program} {q:TypeId} {good:Value→Value→Prop} {w:World} {b:Nat} (h:w.heap[b]?=some (.map #[] 0)):Memo P q good w b:=⟨#[],0,h,⟨by simp,MapKept.stamped_empty 0,by simp⟩,by simp⟩
set_option maxHeartbeats 1000000 in
theorem fieldWins_calls (k:Nat) (g P L:Int) (w:World):Calls Tryz.prog 28 #[.int .i64 g] w fun e w'=>∃ gk gg gf b:Nat,e=.returned (.func (.func 66) #[] #[.pointer (some ⟨gk,0,none⟩),.pointer (some ⟨gg,0,none⟩),.pointer (some ⟨gf,0,none⟩)])∧EnvW k g P L gk gg gf b w'∧Below w.heap.size w w'∧w.heap.size≤b:=by
 have hmm:=@run_makeMap Tryz.prog
 have hsf:∀ (W:World) (a:Addr) (m:Mode) (fn:Fn) (f c:Array Value),(store a (.func fn f c) m).run Tryz.prog W=stored Tryz.prog W a (.func fn f c) m:=fun W a m fn f c=>run_store Tryz.prog W a _ m rfl
 go_enter Tryz.func28,Tryz.ntmps28
 go_wp2
 go_ret
 refine ⟨w.heap.size+2,w.heap.size,w.heap.size+3,w.heap.size+1,rfl,⟨?_,?_,?_,?_⟩,?_,?_⟩
 ·exact (allocs4 w _ _ _ _).2.2.1
 ·exact (allocs4 w _ _ _ _).1
 ·exact (allocs4 w _ _ _ _).2.2.2.1
 ·exact Memo.new (allocs4 w _ _ _ _).2.1
 ·exact (allocs4 w _ _ _ _).2.2.2.2
 ·omega
end Go.Proofs.YtlmohkbimnhecaaGreat.Q
