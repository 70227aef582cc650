/-
  BestPoints: the code, or the points behind which the other player does not win; told as the printed functions are.
-/
import Derived.Test.YtlmohkbimnhecaaGreatOutOutcome
import Derived.Test.YtlmohkbimnhecaaGreatHof
namespace Go.Proofs.YtlmohkbimnhecaaGreat.Q
open Go.RowKit Go.Proofs.YtlmohkbimnhecaaGreatW.PrintWords Go.Proofs.YtlmohkbimnhecaaGreatW.PrintLast Go.Proofs.YtlmohkbimnhecaaGreatW.PrintMore
open Go.Maps (Keyed)
def lossP (k:Nat) (g P L:Int) (d:Nat) (R B p i:Int):Option Bool:=(impl_Field_coloured.f P L R B p i).bind fun m=>winsF k g P L d m.2.2.1 m.2.2.2 (wrap64 (1-p))
def bestF (k:Nat) (g P L:Int) (d:Nat) (R B p:Int):Option (List Int):=(impl_Field_points.f k P L R B g p).bind fun l=>delP (lossP k g P L d R B p) l
theorem delP_mono {p q:Int→Option Bool} (h:∀ i,LeO (p i) (q i)) (l:List Int):LeO (delP p l) (delP q l):=by
 induction l with
 |nil=>exact LeO.refl _
 |cons x l ih=>exact LeO.bind (h x) (fun b=>LeO.bind ih (fun t=>LeO.refl _))
theorem bestF_mono (g P L:Int) (d k:Nat) (R B p:Int):LeO (bestF k g P L d R B p) (bestF (k+1) g P L d R B p):=
 LeO.bind (impl_Field_points.mono _ _ _ _ _ _ k) (fun l=>delP_mono (fun _=>LeO.bind (LeO.refl _) (fun _=>winsF_mono _ _ _ _ k _ _ _)) l)
def impl_BestPoints.f (k:Nat) (f0 f1 f2 f3 g p:Int):Option (List Int×Int):=
 (impl_fieldCode.f k f0 f1 f2 f3 g p).bind fun c=>if c=0 then (bestF k g f0 f1 12 f2 f3 p).bind fun l=>some (l,0) else some (([]:List Int),c)
theorem impl_BestPoints.mono:∀ a0 a1 a2 a3 a4 a5 k,LeO (impl_BestPoints.f k a0 a1 a2 a3 a4 a5) (impl_BestPoints.f (k+1) a0 a1 a2 a3 a4 a5):=by
 intro a0 a1 a2 a3 a4 a5 k
 unfold impl_BestPoints.f
 exact LeO.bind (impl_fieldCode.mono _ _ _ _ _ _ k) (fun c=>LeO.ite (LeO.bind (bestF_mono _ _ _ _ k _ _ _) (fun l=>LeO.refl _)) (LeO.refl _))
def InvB (k:Nat) (g P L:Int) (gk gg gf b gs gq:Nat) (R B p:Int) (w:World):Prop:=InvW k g P L gk gg gf b gs R B p w ∧
 w.heap[gq]?=some (.cells #[.func (.func 66) #[] #[.pointer (some ⟨gk,0,none⟩),.pointer (some ⟨gg,0,none⟩),.pointer (some ⟨gf,0,none⟩)]] 55 (0,0))
section
variable {k:Nat} {g P L:Int} {gk gg gf b gs gq:Nat} {R B p:Int} {a w w':World}
theorem InvB.grown (h:InvB k g P L gk gg gf b gs gq R B p w) (he:EnvW k g P L gk gg gf b w') (hg:w.grownBy w' (some b)):InvB k g P L gk gg gf b gs gq R B p w':=
 ⟨h.1.grown hg he,(hg.block gq (lt_of_block h.2) (h.1.1.memo.ne h.2)).trans h.2⟩
theorem InvB.below (h:InvB k g P L gk gg gf b gs gq R B p w) (hb:Below w.heap.size w w'):InvB k g P L gk gg gf b gs gq R B p w':=⟨h.1.below hb,(hb.block gq (lt_of_block h.2)).trans h.2⟩
theorem InvB.cells (h:InvB k g P L gk gg gf b gs gq R B p w∧a.grownBy w (some b)):
 w.cell? ⟨gq,0,none⟩=some (.func (.func 66) #[] #[.pointer (some ⟨gk,0,none⟩),.pointer (some ⟨gg,0,none⟩),.pointer (some ⟨gf,0,none⟩)])∧w.cell? ⟨gs,0,none⟩=some (.int .i64 P)∧w.cell? ⟨gs,1,none⟩=some (.int .i64 L)∧w.cell? ⟨gs,2,none⟩=some (.int .i64 R)∧w.cell? ⟨gs,3,none⟩=some (.int .i64 B)∧w.cell? ⟨gs,4,none⟩=some (.int .i64 p) ∧
 Aside0 (InvB k g P L gk gg gf b gs gq R B p w∧a.grownBy w (some b)):=
 ⟨blk_cell h.1.2 0,blk_cell h.1.1.2 0,blk_cell h.1.1.2 1,blk_cell h.1.1.2 2,blk_cell h.1.1.2 3,blk_cell h.1.1.2 4,⟨h⟩⟩
theorem invB_step (h:Aside0 (InvB k g P L gk gg gf b gs gq R B p w∧a.grownBy w (some b))) (hb:Below w.heap.size w w'):InvB k g P L gk gg gf b gs gq R B p w'∧a.grownBy w' (some b):=⟨h.out.1.below hb,grown_then h.out.2 (grown_below hb)⟩
theorem findB {d:Nat} {R1 B1 p1:Int} {r:Bool} (hh:Aside0 (InvB k g P L gk gg gf b gs gq R B p w∧a.grownBy w (some b))) (hw:Aside0 (winsF k g P L d R1 B1 p1=some r)):
 Calls Tryz.prog 66 #[.agg #[.int .i64 P,.int .i64 L,.int .i64 R1,.int .i64 B1,.int .i64 p1],.pointer (some ⟨gk,0,none⟩),.pointer (some ⟨gg,0,none⟩),.pointer (some ⟨gf,0,none⟩)] w fun e w'=>e=.returned (.bool r)∧InvB k g P L gk gg gf b gs gq R B p w'∧a.grownBy w' (some b):=
 (find_at k g P L d R1 B1 p1 r w gk gg gf b hh.out.1.1.1 hw.out).mono (fun _ _ ⟨h1,h2,h3⟩=>⟨h1,hh.out.1.grown h2 h3,grown_then hh.out.2 h3⟩)
end
set_option linter.unusedSimpArgs false
set_option maxRecDepth 100000
set_option maxHeartbeats 4000000 in
theorem best_pred (k:Nat) (g P L:Int) (d:Nat) (gk gg gf b gs gq:Nat) (R B p:Int):
 PredInv 70 #[.pointer (some ⟨gq,0,none⟩),.pointer (some ⟨gs,0,none⟩)] (lossP k g P L d R B p) (InvB k g P L gk gg gf b gs gq R B p) (some b):=by
 intro x q W h hI
 rw [show (#[Value.int .i64 x]++#[Value.pointer (some ⟨gq,0,none⟩),.pointer (some ⟨gs,0,none⟩)]:Array Value)=#[.int .i64 x,.pointer (some ⟨gq,0,none⟩),.pointer (some ⟨gs,0,none⟩)] from rfl]
 obtain ⟨m,hm,hq⟩:=Option.bind_eq_some_iff.1 h
 have e:=coloured_form P L R B p x m hm
 generalize m.2.2.1=R1 at e hq
 generalize m.2.2.2=B1 at e hq
 subst e
 have HM:=Aside0.mk hm
 have HQ:Aside0 (winsF k g P L d R1 B1 (IntKind.i64.wrap (1-p))=some q):=⟨by rw [IntKind.wrap_i64];unfold wrap64 at hq;exact hq⟩
 obtain ⟨hcf,hc0,hc1,hc2,hc3,hc4,HI⟩:=InvB.cells (And.intro hI (grown_refl W (some b)))
 have hu:=Tryz.underlying25
 have hu2:=Tryz.underlying58
 clear hm hq h hI
 go_enter Tryz.func70,Tryz.ntmps70
 go_wp2_with fail
 go_region_held3 (fun w'=>w'.cell? ⟨gq,0,none⟩=some (.func (.func 66) #[] #[.pointer (some ⟨gk,0,none⟩),.pointer (some ⟨gg,0,none⟩),.pointer (some ⟨gf,0,none⟩)])∧w'.cell? ⟨gs,0,none⟩=some (.int .i64 P)∧w'.cell? ⟨gs,1,none⟩=some (.int .i64 L)∧w'.cell? ⟨gs,2,none⟩=some (.int .i64 R)∧w'.cell? ⟨gs,3,none⟩=some (.int .i64 B)∧w'.cell? ⟨gs,4,none⟩=some (.int .i64 p)∧Aside0 (InvB k g P L gk gg gf b gs gq R B p w'∧W.grownBy w' (some b)))
  (first
   |exact InvB.cells ⟨HI.out.1.below (below_drew (Below.refl _ _)),grown_drew HI.out.2⟩
   |exact InvB.cells hh'
   |(go_split_ands;exact InvB.cells (invB_step (by assumption) (by assumption))))
  (first|(go_at_call 31;refine (impl_Field_coloured.calls P L R B p x P L R1 B1 _ HM.out).mono ?_;rintro e w' ⟨rfl,hb'⟩)|(go_at_call 66;go_split_ands;refine (findB (by assumption) HQ).mono ?_;rintro e w' ⟨rfl,hh'⟩))
 go_wp2
 go_ret
 rename_i hH
 exact ⟨rfl,hH.2.2.2.2.2.2.out.1,hH.2.2.2.2.2.2.out.2⟩
theorem lt_of_memo {k:Nat} {g P L:Int} {gk gg gf b:Nat} {w:World} (h:EnvW k g P L gk gg gf b w):b<w.heap.size:=h.memo.lt
theorem own_lower {w w1:World} {base e:Nat} {v:Value} {l:List Int} (h:Kd.R (Kd.int .i64) e w w1.heap.size (fun _=>True) v l) (hb:base≤w1.heap.size):Kd.R (Kd.int .i64) e w base (fun k_=>w1.heap.size≤k_) v l:=
 Kd.R_lower (Kd.R_mono (Kd.R_bound h) (fun _ hk=>hk.2.1)) hb
theorem invB_own {k:Nat} {g P L:Int} {gk gg gf b n m:Nat} {R B p:Int} {w1 w2 W1 W2:World} {v:Value} {e:Nat} {l:List Int} (h0:InvB k g P L gk gg gf b n m R B p w1) (h:InvB k g P L gk gg gf b n m R B p W1) (ho:Kd.R (Kd.int .i64) e w2 w1.heap.size (fun _=>True) v l) (hg:W1.grownBy W2 v.ownBlock):InvB k g P L gk gg gf b n m R B p W2:=by
 have hne:∀ i,i<w1.heap.size→some i≠v.ownBlock:=fun i hi e=>by
  have:=Kd.R_base ho i e.symm
  omega
 have step:∀ i o,i<w1.heap.size→W1.heap[i]?=some o→W2.heap[i]?=some o:=fun i o hi e=>(hg.block i (lt_of_block e) (hne i hi)).trans e
 refine ⟨⟨⟨step gk _ (lt_of_block h0.1.1.known) h.1.1.known,step gg _ (lt_of_block h0.1.1.game) h.1.1.game,step gf _ (lt_of_block h0.1.1.find) h.1.1.find,?_⟩,step n _ (lt_of_block h0.1.2) h.1.2⟩,step m _ (lt_of_block h0.2) h.2⟩
 exact h.1.1.memo.kept hg (hne b h0.1.1.memo.lt)
set_option maxHeartbeats 4000000 in
theorem bestPoints_calls (k:Nat) (g P L:Int) (d:Nat) (R B p:Int) (r:List Int) (w0 W:World) (gk gg gf b:Nat) (hE:EnvW k g P L gk gg gf b W) (hB:Below w0.heap.size w0 W) (hb:w0.heap.size≤b) (h:bestF k g P L d R B p=some r):
 Calls Tryz.prog 29 #[.agg #[.int .i64 P,.int .i64 L,.int .i64 R,.int .i64 B,.int .i64 p],.int .i64 g,.func (.func 66) #[] #[.pointer (some ⟨gk,0,none⟩),.pointer (some ⟨gg,0,none⟩),.pointer (some ⟨gf,0,none⟩)]] W
  fun e w'=>∃ v0_:Value,e=.returned v0_∧Kd.R (Kd.int .i64) 2 w' w0.heap.size (fun k_=>W.heap.size≤k_) v0_ r∧EnvW k g P L gk gg gf b w'∧W.grownBy w' (some b):=by
 obtain ⟨l,hl,h⟩:=Option.bind_eq_some_iff.1 h
 generalize hw1:(W.alloc (.cells #[.int .i64 P,.int .i64 L,.int .i64 R,.int .i64 B,.int .i64 p] 58)).alloc (.cells #[.func (.func 66) #[] #[.pointer (some ⟨gk,0,none⟩),.pointer (some ⟨gg,0,none⟩),.pointer (some ⟨gf,0,none⟩)]] 55)=w1
 have HB1:Aside0 (Below W.heap.size W w1):=⟨by rw [← hw1];exact ((Below.refl _ _).alloc (Nat.le_refl _) _).alloc (by simp<;>omega) _⟩
 have HL1:Aside0 (w1.heap.size=W.heap.size+2):=⟨by rw [← hw1];simp⟩
 have HI1:Aside0 (InvB k g P L gk gg gf b W.heap.size (W.heap.size+1) R B p w1):=⟨⟨hE.below HB1.out,by rw [← hw1,(MapKept.heap_alloc _ _).2 _ (by simp)];simpa using heap_alloc_new W (.cells #[.int .i64 P,.int .i64 L,.int .i64 R,.int .i64 B,.int .i64 p] 58)⟩,by
  rw [← hw1]
  simpa using heap_alloc_new (W.alloc (.cells #[.int .i64 P,.int .i64 L,.int .i64 R,.int .i64 B,.int .i64 p] 58)) (.cells #[.func (.func 66) #[] #[.pointer (some ⟨gk,0,none⟩),.pointer (some ⟨gg,0,none⟩),.pointer (some ⟨gf,0,none⟩)]] 55)⟩
 obtain ⟨hcf,hc0,hc1,hc2,hc3,hc4,_⟩:=InvB.cells (And.intro HI1.out (grown_refl w1 (some b)))
 have hu:=Tryz.underlying25
 have hu2:=Tryz.underlying58
 have HL:=Aside0.mk hl
 have HA:=Aside0.mk h
 have HE:=Aside0.mk hE
 have HB:=Aside0.mk hB
 have HLB:=Aside0.mk hb
 clear h hl hE hB hb
 go_enter Tryz.func29,Tryz.ntmps29
 go_wp2_with (first
  |(go_at_call 30;refine (impl_Field_points.calls k P L R B g p l _ HL.out).mono ?_;rintro e w2 ⟨v2,rfl,ho2,hb2⟩)
  |(go_at_call 69;refine (deleteFunc_inv 70 _ (enters_of Tryz.func70 (by kernel_rfl) rfl) (lossP k g P L d R B p) (InvB k g P L gk gg gf b W.heap.size (W.heap.size+1) R B p) (some b) (fun k_=>w1.heap.size≤k_) _ l r w0 w2 (fun W1 W2 hi hg=>invB_own HI1.out hi ho2 hg) (HI1.out.below hb2) (best_pred k g P L d gk gg gf b W.heap.size (W.heap.size+1) R B p) (fun k' e=>by have:=Option.some.inj e;have:=lt_of_memo HE.out;have:=HLB.out;have:=HL1.out;have:=hb2.size;omega) (below_then HB.out HB.out.size (below_then HB1.out HB1.out.size hb2)) (own_lower ho2 (Nat.le_trans HB.out.size HB1.out.size)) HA.out).mono ?_;rintro e w3 ⟨v3,rfl,ho3,hb3,hk3,hi3⟩))
 go_ret
 refine ⟨_,rfl,Kd.R_mono ho3 (fun k' hk=>by have:=HL1.out;have:=hb2.size;rcases hk with h|h<;>omega),hi3.1.1,⟨hb3.os.trans HB.out.os.symm,hb3.tape.trans HB.out.tape.symm,hb3.output.trans HB.out.output.symm,by have:=HL1.out;have:=hb2.size;have:=hk3.1;omega,fun i hi hn=>?_⟩⟩
 have:=HL1.out
 have:=hb2.size
 rw [hk3.2 i (by omega) (fun c=>by rcases c with c|c;omega;exact hn c),hb2.block i (by omega)]
 exact HB1.out.block i hi
def HeldF (w:World) (f0 f1 f2 f3:Int) (w':World):Prop:=w'.heap[w.heap.size]?=some (.cells #[.int .i64 f0,.int .i64 f1,.int .i64 f2,.int .i64 f3] 25 (0,0))∧Below w.heap.size w w'
section
variable {w a a':World} {f0 f1 f2 f3:Int}
theorem held_cells (h:HeldF w f0 f1 f2 f3 a):a.cell? ⟨w.heap.size,0,none⟩=some (.int .i64 f0)∧a.cell? ⟨w.heap.size,1,none⟩=some (.int .i64 f1)∧a.cell? ⟨w.heap.size,2,none⟩=some (.int .i64 f2)∧a.cell? ⟨w.heap.size,3,none⟩=some (.int .i64 f3)∧Aside0 (HeldF w f0 f1 f2 f3 a):=
 ⟨blk_cell h.1 0,blk_cell h.1 1,blk_cell h.1 2,blk_cell h.1 3,⟨h⟩⟩
theorem HeldF.drew (h:HeldF w f0 f1 f2 f3 a):HeldF w f0 f1 f2 f3 a.drew:=⟨h.1,below_drew h.2⟩
theorem held_below (h:Aside0 (HeldF w f0 f1 f2 f3 a)) (hb:Below a.heap.size a a'):HeldF w f0 f1 f2 f3 a':=⟨(hb.block _ (lt_of_block h.out.1)).trans h.out.1,below_then h.out.2 h.out.2.size hb⟩
theorem held_then {q:TypeId} {good:Value→Value→Prop} {b:Nat} (h:Aside0 (HeldF w f0 f1 f2 f3 a)) (hg:a.grownBy a' (some b)) (hm:Memo Tryz.prog q good a b) (hb:w.heap.size≤b):HeldF w f0 f1 f2 f3 a':=
 ⟨(hg.block _ (lt_of_block h.out.1) (hm.ne h.out.1)).trans h.out.1,h.out.2.grown hg h.out.2.size (fun k e=>by have:=Option.some.inj e;omega)⟩
theorem held_b (h:Aside0 (HeldF w f0 f1 f2 f3 a)):Below w.heap.size w a:=h.out.2
end
set_option linter.unusedSimpArgs false
set_option maxRecDepth 100000
set_option maxHeartbeats 4000000 in
theorem impl_BestPoints.calls (k:Nat) (f0 f1 f2 f3 g p:Int) (r1:List Int) (r2:Int) (w:World) (h:impl_BestPoints.f k f0 f1 f2 f3 g p=some (r1,r2)):
 Calls Tryz.prog 8 #[.agg #[.int .i64 f0,.int .i64 f1,.int .i64 f2,.int .i64 f3],.int .i64 g,.int .i64 p] w fun e w'=>∃ v0_:Value,e=.returned (.tuple #[v0_,.int .i64 r2])∧Kd.R (Kd.int .i64) 2 w' w.heap.size (fun _=>True) v0_ r1∧Below w.heap.size w w':=by
 unfold impl_BestPoints.f at h
 obtain ⟨c,hc,h⟩:=Option.bind_eq_some_iff.1 h
 generalize hw1:w.alloc (.cells #[.int .i64 f0,.int .i64 f1,.int .i64 f2,.int .i64 f3] 25)=w1
 have HB1:Aside0 (Below w.heap.size w w1):=⟨by rw [← hw1];exact (Below.refl _ _).alloc (Nat.le_refl _) _⟩
 have hblk:w1.heap[w.heap.size]?=some (.cells #[.int .i64 f0,.int .i64 f1,.int .i64 f2,.int .i64 f3] 25 (0,0)):=by rw [← hw1];simpa using heap_alloc_new w (.cells #[.int .i64 f0,.int .i64 f1,.int .i64 f2,.int .i64 f3] 25)
 have HK:=Aside0.mk hblk
 have hc0:w1.cell? ⟨w.heap.size,0,none⟩=some (.int .i64 f0):=blk_cell hblk 0
 have hc1:w1.cell? ⟨w.heap.size,1,none⟩=some (.int .i64 f1):=blk_cell hblk 1
 have hc2:w1.cell? ⟨w.heap.size,2,none⟩=some (.int .i64 f2):=blk_cell hblk 2
 have hc3:w1.cell? ⟨w.heap.size,3,none⟩=some (.int .i64 f3):=blk_cell hblk 3
 have hu:=Tryz.underlying25
 have hu2:=Tryz.underlying58
 have HC:=Aside0.mk hc
 clear hc hblk
 by_cases e:c=0
 ·rw [if_pos e] at h
  subst e
  obtain ⟨l,hl,h⟩:=Option.bind_eq_some_iff.1 h
  simp only [Option.some.injEq,Prod.mk.injEq] at h
  obtain ⟨rfl,rfl⟩:=h
  have HL:=Aside0.mk hl
  clear hl
  go_enter Tryz.func8,Tryz.ntmps8
  go_wp2_with (first
   |(go_at_call 27;refine (impl_fieldCode.calls k f0 f1 f2 f3 g p 0 _ HC.out).mono ?_;rintro e w2 ⟨rfl,hb2⟩;have hd0:=pw_cell_below hb2 hc0;have hd1:=pw_cell_below hb2 hc1;have hd2:=pw_cell_below hb2 hc2;have hd3:=pw_cell_below hb2 hc3))
  obtain ⟨hd0,hd1,hd2,hd3,HS⟩:=held_cells ⟨(hb2.block _ (lt_of_block HK.out)).trans HK.out,below_then HB1.out HB1.out.size hb2⟩
  have hsz:w.heap.size≤w2.heap.size:=Nat.le_trans HB1.out.size hb2.size
  go_region_held3 (fun w'=>w'.cell? ⟨w.heap.size,0,none⟩=some (.int .i64 f0)∧w'.cell? ⟨w.heap.size,1,none⟩=some (.int .i64 f1)∧w'.cell? ⟨w.heap.size,2,none⟩=some (.int .i64 f2)∧w'.cell? ⟨w.heap.size,3,none⟩=some (.int .i64 f3)∧Aside0 (HeldF w f0 f1 f2 f3 w'))
   (first
    |exact held_cells HS.out.drew
    |(go_split_ands;exact held_cells (held_then (by assumption) hg4 he3.memo (Nat.le_trans hsz hlt)))
    |(go_split_ands;exact held_cells (held_below (by assumption) hb3)))
   (first|(go_at_call 28;refine (fieldWins_calls k g f0 f1 _).mono ?_;rintro e w3 ⟨gk,gg,gf,b,rfl,he3,hb3,hlt⟩)|(go_at_call 29;go_split_ands;refine (bestPoints_calls k g f0 f1 12 f2 f3 p l w _ gk gg gf b he3 (held_b (by assumption)) (Nat.le_trans hsz hlt) HL.out).mono ?_;rintro e w4 ⟨v4,rfl,ho4,he4,hg4⟩))
  go_wp2
  go_ret2
  rename_i hH
  exact ⟨_,rfl,Kd.R_mono ho4 (fun _ _=>trivial),hH.2.2.2.2.out.2⟩
 ·rw [if_neg e] at h
  simp only [Option.some.injEq,Prod.mk.injEq] at h
  obtain ⟨rfl,rfl⟩:=h
  have hne:(c !=0)=true:=by simpa using e
  go_enter Tryz.func8,Tryz.ntmps8
  go_wp2_with (go_at_call 27;refine (impl_fieldCode.calls k f0 f1 f2 f3 g p c _ HC.out).mono ?_;rintro e w2 ⟨rfl,hb2⟩)
  go_ret2
  exact ⟨_,rfl,Kd.R_nil _ _ _ _ _,below_then HB1.out HB1.out.size hb2⟩
end Go.Proofs.YtlmohkbimnhecaaGreat.Q
