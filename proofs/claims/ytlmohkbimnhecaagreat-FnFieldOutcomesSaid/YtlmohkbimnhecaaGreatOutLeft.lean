/-
  MovesLeft: the code, or the least and the greatest number of moves; told as the printed functions are.
-/
import Derived.Test.YtlmohkbimnhecaaGreatLeftCode
import Derived.Test.YtlmohkbimnhecaaGreatOutOutcome
namespace Go.Proofs.YtlmohkbimnhecaaGreat.Q
open Go.RowKit Go.Proofs.YtlmohkbimnhecaaGreatW.PrintWords Go.Proofs.YtlmohkbimnhecaaGreatW.PrintLast Go.Proofs.YtlmohkbimnhecaaGreatW.PrintMore
open Go.Maps (Keyed)
def goodL (k:Nat) (g P L:Int) (key v:Value):Prop:=∃ (R B p:Int) (d:Nat) (r:Int×Int),key=stV P L R B p∧v=.agg #[.int .i64 r.1,.int .i64 r.2]∧leftF k g P L d R B p=some r
theorem goodL_few (k:Nat) (g P L:Int):Few (goodL k g P L):=by
 refine ⟨codeW,1048576*2097152,by decide,?_,?_⟩
 ·rintro _ _ ⟨R,B,p,d,r,rfl,rfl,h⟩
  obtain ⟨_,_,h2,h3,h4⟩:=leftF_ok k g P L d R B p r h
  rw [codeW_st]
  omega
 ·rintro _ _ _ _ ⟨R,B,p,d,r,rfl,rfl,h⟩ ⟨R',B',p',d',r',rfl,rfl,h'⟩ e
  obtain ⟨_,_,h2,h3,h4⟩:=leftF_ok k g P L d R B p r h
  obtain ⟨_,_,k2,k3,k4⟩:=leftF_ok k g P L d' R' B' p' r' h'
  rw [codeW_st,codeW_st] at e
  obtain rfl:R=R':=by omega
  obtain rfl:B=B':=by omega
  obtain rfl:p=p':=by omega
  rfl
structure EnvL (k:Nat) (g P L:Int) (qk qg qf b:Nat) (w:World):Prop where
 known:w.heap[qk]?=some (.cells #[.map (some b)] 92 (0,0))
 game:w.heap[qg]?=some (.cells #[.int .i64 g] 2 (0,0))
 find:w.heap[qf]?=some (.cells #[.func (.func 57) #[] #[.pointer (some ⟨qk,0,none⟩),.pointer (some ⟨qg,0,none⟩),.pointer (some ⟨qf,0,none⟩)]] 93 (0,0))
 memo:Memo Tryz.prog 58 (goodL k g P L) w b
section
variable {k:Nat} {g P L:Int} {qk qg qf b:Nat} {w w':World}
theorem EnvL.grown (h:EnvL k g P L qk qg qf b w) (hg:w.grownBy w' (some b)) (hm:Memo Tryz.prog 58 (goodL k g P L) w' b):EnvL k g P L qk qg qf b w':=
 ⟨(hg.block qk (lt_of_block h.known) (h.memo.ne h.known)).trans h.known,(hg.block qg (lt_of_block h.game) (h.memo.ne h.game)).trans h.game,(hg.block qf (lt_of_block h.find) (h.memo.ne h.find)).trans h.find,hm⟩
theorem EnvL.below (h:EnvL k g P L qk qg qf b w) (hb:Below w.heap.size w w'):EnvL k g P L qk qg qf b w':=
 ⟨(hb.block qk (lt_of_block h.known)).trans h.known,(hb.block qg (lt_of_block h.game)).trans h.game,(hb.block qf (lt_of_block h.find)).trans h.find,h.memo.below hb⟩
end
def FindL (k:Nat) (g P L:Int) (d:Nat):Prop:=∀ (R B p:Int) (r:Int×Int) (W:World) (qk qg qf b:Nat),EnvL k g P L qk qg qf b W→leftF k g P L d R B p=some r →
 Calls Tryz.prog 57 #[.agg #[.int .i64 P,.int .i64 L,.int .i64 R,.int .i64 B,.int .i64 p],.pointer (some ⟨qk,0,none⟩),.pointer (some ⟨qg,0,none⟩),.pointer (some ⟨qf,0,none⟩)] W fun e w'=>e=.returned (.agg #[.int .i64 r.1,.int .i64 r.2])∧EnvL k g P L qk qg qf b w'∧W.grownBy w' (some b)
theorem zero_pair (w:World):(zeroValue 94).run Tryz.prog w=.ok (.agg #[.int .i64 0,.int .i64 0]) w:=by kernel_rfl
def predL (k:Nat) (g P L:Int) (d:Nat) (R B p i:Int):Option (Int×Int):=(impl_Field_coloured.f P L R B p i).bind fun m=>leftF k g P L d m.2.2.1 m.2.2.2 (wrap64 (1-p))
structure LoopL (k:Nat) (g P L:Int) (qk qg qf b gs go:Nat) (W:World) (R B p lo hi:Int) (w:World):Prop where
 env:EnvL k g P L qk qg qf b w
 st:w.heap[gs]?=some (.cells #[.int .i64 P,.int .i64 L,.int .i64 R,.int .i64 B,.int .i64 p] 58 (0,0))
 res:w.heap[gs+1]?=some (.cells #[.int .i64 0,.int .i64 0] 94 (0,0))
 out:w.heap[go]?=some (.cells #[.int .i64 lo,.int .i64 hi] 94 (0,0))
 grow:W.grownBy w (some b)
section
variable {k:Nat} {g P L:Int} {qk qg qf b gs go:Nat} {W w w':World} {R B p lo hi:Int}
theorem LoopL.below (h:LoopL k g P L qk qg qf b gs go W R B p lo hi w) (hb:Below w.heap.size w w'):LoopL k g P L qk qg qf b gs go W R B p lo hi w':=⟨h.env.below hb,blk_below h.st hb,blk_below h.res hb,blk_below h.out hb,grown_then h.grow (grown_below hb)⟩
theorem LoopL.grown (h:LoopL k g P L qk qg qf b gs go W R B p lo hi w) (he:EnvL k g P L qk qg qf b w') (hg:w.grownBy w' (some b)):LoopL k g P L qk qg qf b gs go W R B p lo hi w':=
 ⟨he,blk_grown h.st hg (h.env.memo.ne h.st),blk_grown h.res hg (h.env.memo.ne h.res),blk_grown h.out hg (h.env.memo.ne h.out),grown_then h.grow hg⟩
theorem LoopL.cells (h:LoopL k g P L qk qg qf b gs go W R B p lo hi w):
 w.cell? ⟨qf,0,none⟩=some (.func (.func 57) #[] #[.pointer (some ⟨qk,0,none⟩),.pointer (some ⟨qg,0,none⟩),.pointer (some ⟨qf,0,none⟩)])∧w.cell? ⟨gs,0,none⟩=some (.int .i64 P)∧w.cell? ⟨gs,1,none⟩=some (.int .i64 L)∧w.cell? ⟨gs,2,none⟩=some (.int .i64 R)∧w.cell? ⟨gs,3,none⟩=some (.int .i64 B)∧w.cell? ⟨gs,4,none⟩=some (.int .i64 p) ∧
 Aside0 (LoopL k g P L qk qg qf b gs go W R B p lo hi w):=⟨blk_cell h.env.find 0,blk_cell h.st 0,blk_cell h.st 1,blk_cell h.st 2,blk_cell h.st 3,blk_cell h.st 4,⟨h⟩⟩
end
def LoopS (k:Nat) (g P L:Int) (qk qg qf b gs go:Nat) (W:World) (R B p lo hi:Int) (w w':World):Prop:=LoopL k g P L qk qg qf b gs go W R B p lo hi w'∧w.grownBy w' (some b)
section
variable {k:Nat} {g P L:Int} {qk qg qf b gs go:Nat} {W w a a':World} {R B p lo hi:Int}
theorem LoopS.start (h:LoopL k g P L qk qg qf b gs go W R B p lo hi w):LoopS k g P L qk qg qf b gs go W R B p lo hi w w:=⟨h,grown_refl _ _⟩
theorem LoopS.drew (h:LoopS k g P L qk qg qf b gs go W R B p lo hi w a):LoopS k g P L qk qg qf b gs go W R B p lo hi w a.drew:=⟨h.1.below (below_drew (Below.refl _ _)),grown_drew h.2⟩
theorem LoopS.below (h:Aside0 (LoopS k g P L qk qg qf b gs go W R B p lo hi w a)) (hb:Below a.heap.size a a'):LoopS k g P L qk qg qf b gs go W R B p lo hi w a':=⟨h.out.1.below hb,grown_then h.out.2 (grown_below hb)⟩
theorem LoopS.cells (h:LoopS k g P L qk qg qf b gs go W R B p lo hi w a):
 a.cell? ⟨qf,0,none⟩=some (.func (.func 57) #[] #[.pointer (some ⟨qk,0,none⟩),.pointer (some ⟨qg,0,none⟩),.pointer (some ⟨qf,0,none⟩)])∧a.cell? ⟨gs,0,none⟩=some (.int .i64 P)∧a.cell? ⟨gs,1,none⟩=some (.int .i64 L)∧a.cell? ⟨gs,2,none⟩=some (.int .i64 R)∧a.cell? ⟨gs,3,none⟩=some (.int .i64 B)∧a.cell? ⟨gs,4,none⟩=some (.int .i64 p) ∧
 Aside0 (LoopS k g P L qk qg qf b gs go W R B p lo hi w a):=⟨blk_cell h.1.env.find 0,blk_cell h.1.st 0,blk_cell h.1.st 1,blk_cell h.1.st 2,blk_cell h.1.st 3,blk_cell h.1.st 4,⟨h⟩⟩
theorem findL {d:Nat} {R1 B1 p1:Int} {n:Int×Int} (ih:FindL k g P L d) (hh:Aside0 (LoopS k g P L qk qg qf b gs go W R B p lo hi w a)) (hw:Aside0 (leftF k g P L d R1 B1 p1=some n)):
 Calls Tryz.prog 57 #[.agg #[.int .i64 P,.int .i64 L,.int .i64 R1,.int .i64 B1,.int .i64 p1],.pointer (some ⟨qk,0,none⟩),.pointer (some ⟨qg,0,none⟩),.pointer (some ⟨qf,0,none⟩)] a fun e w'=>e=.returned (.agg #[.int .i64 n.1,.int .i64 n.2])∧LoopS k g P L qk qg qf b gs go W R B p lo hi w w'∧a.grownBy w' (some b):=
 (ih R1 B1 p1 n a qk qg qf b hh.out.1.env hw.out).mono (fun _ _ ⟨h1,h2,h3⟩=>⟨h1,⟨hh.out.1.grown h2 h3,grown_then hh.out.2 h3⟩,h3⟩)
end
theorem set1_grownL (w:World) (g o:Nat) (a:Value):w.grownBy (w.setCell ⟨g,o,none⟩ a) (some g):=⟨rfl,rfl,rfl,by simp,fun k hk hn=>Below.heap_setCell _ _ _ _ (fun e=>hn (by rw [e]))⟩
theorem set2_grownL (w:World) (g:Nat) (a b:Value):w.grownBy ((w.setCell ⟨g,0,none⟩ a).setCell ⟨g,1,none⟩ b) (some g):=grown_then (set1_grownL w g 0 a) (set1_grownL _ g 1 b)
section
variable {k:Nat} {g P L:Int} {qk qg qf b gs go:Nat} {W w0 w w':World} {R B p lo hi:Int}
theorem LoopL.away {gx:Nat} (h0:LoopL k g P L qk qg qf b gs go W R B p lo hi w0) (h:LoopL k g P L qk qg qf b gs go W R B p lo hi w) (hg:w.grownBy w' (some gx)) (hx:w0.heap.size≤gx):LoopL k g P L qk qg qf b gs go W R B p lo hi w':=by
 have ne:∀ i,i<w0.heap.size→some i≠some gx:=fun i hi e=>by have:=Option.some.inj e;omega
 have hs:=h0.grow.size
 exact ⟨⟨blk_grown h.env.known hg (ne _ (lt_of_block h0.env.known)),blk_grown h.env.game hg (ne _ (lt_of_block h0.env.game)),blk_grown h.env.find hg (ne _ (lt_of_block h0.env.find)),h.env.memo.kept hg (ne _ h0.env.memo.lt)⟩,
  blk_grown h.st hg (ne _ (lt_of_block h0.st)),blk_grown h.res hg (ne _ (lt_of_block h0.res)),blk_grown h.out hg (ne _ (lt_of_block h0.out)),
  ⟨hg.os.trans h.grow.os,hg.tape.trans h.grow.tape,hg.output.trans h.grow.output,Nat.le_trans h.grow.size hg.size,fun i hi hn=>(hg.block i (Nat.lt_of_lt_of_le hi h.grow.size) (ne i (by omega))).trans (h.grow.block i hi hn)⟩⟩
theorem LoopL.setOut {lo2 hi2:Int} (h:LoopL k g P L qk qg qf b gs go W R B p lo hi w) (hne:gs+1≠go) (hW:W.heap.size≤go) (hg:w.grownBy w' (some go)) (ho:w'.heap[go]?=some (.cells #[.int .i64 lo2,.int .i64 hi2] 94 (0,0))):LoopL k g P L qk qg qf b gs go W R B p lo2 hi2 w':=
 ⟨⟨blk_grown h.env.known hg (fun e=>blk_ne h.env.known h.out (by decide) (Option.some.inj e)),blk_grown h.env.game hg (fun e=>blk_ne h.env.game h.out (by decide) (Option.some.inj e)),blk_grown h.env.find hg (fun e=>blk_ne h.env.find h.out (by decide) (Option.some.inj e)),h.env.memo.kept hg (fun e=>h.env.memo.ne h.out e.symm)⟩,
  blk_grown h.st hg (fun e=>blk_ne h.st h.out (by decide) (Option.some.inj e)),blk_grown h.res hg (fun e=>hne (Option.some.inj e)),ho,
  ⟨hg.os.trans h.grow.os,hg.tape.trans h.grow.tape,hg.output.trans h.grow.output,Nat.le_trans h.grow.size hg.size,fun i hi hn=>(hg.block i (Nat.lt_of_lt_of_le hi h.grow.size) (fun e=>by have:=Option.some.inj e;omega)).trans (h.grow.block i hi hn)⟩⟩
theorem LoopL.ret (h:LoopL k g P L qk qg qf b gs go W R B p lo hi w) (hW:W.heap.size≤gs+1) (hg:w.grownBy w' (some (gs+1))):EnvL k g P L qk qg qf b w'∧W.grownBy w' (some b):=
 ⟨⟨blk_grown h.env.known hg (fun e=>blk_ne h.env.known h.res (by decide) (Option.some.inj e)),blk_grown h.env.game hg (fun e=>blk_ne h.env.game h.res (by decide) (Option.some.inj e)),blk_grown h.env.find hg (fun e=>blk_ne h.env.find h.res (by decide) (Option.some.inj e)),h.env.memo.kept hg (fun e=>h.env.memo.ne h.res e.symm)⟩,
  ⟨hg.os.trans h.grow.os,hg.tape.trans h.grow.tape,hg.output.trans h.grow.output,Nat.le_trans h.grow.size hg.size,fun i hi hn=>(hg.block i (Nat.lt_of_lt_of_le hi h.grow.size) (fun e=>by have:=Option.some.inj e;omega)).trans (h.grow.block i hi hn)⟩⟩
end
theorem mx_oldL {a b:Int} (h:b≤a):mx a b=a:=by unfold mx;rw [if_neg (by omega)]
theorem mx_newL {a b:Int} (h:a<b):mx a b=b:=by unfold mx;rw [if_pos h]
def leftR8T:Bool×List (List Nat×List Nat):=(true,[([],[]),([],[]),([1],[1]),([],[]),([3],[3]),([],[]),([2,4,5],[2,4,5]),([],[]),([7],[7]),([8],[8]),([6,9],[6,9]),([0,10,6],[0,10]),([],[]),([12,11,11,0,1,2,3,4,5,6,7,8,9,10,11,12],[11,12])])
def leftR8B:List Nat:=[0,0,2,0,8,0,62,0,128,384,1022,2047,0,8191]
theorem leftR8_tab:rtab .any (opsOf Tryz.f57 8)=leftR8T:=by kernel_rfl
theorem leftR8_bits:waitsOk leftR8T.2 leftR8B=true:=by kernel_rfl
set_option linter.unusedSimpArgs false
set_option linter.unusedVariables false
set_option maxRecDepth 100000
set_option maxHeartbeats 4000000 in
theorem left_step (k:Nat) (g P L:Int) (d:Nat) (ih:FindL k g P L d):FindL k g P L (d+1):=by
 intro R B p r W qk qg qf b hE h0
 have h:=h0
 simp only [leftF] at h
 split at h
 rotate_left
 ·cases h
 rename_i hok
 obtain ⟨l,hl,h⟩:=Option.bind_eq_some_iff.1 h
 split at h
 rotate_left
 ·cases h
 rename_i hlen
 obtain ⟨kl,hkey⟩:=stand_key P L R B p hok.1 hok.2.1 (WalkArith.wf_i64 (by have:=hok.2.2.1;omega)) (WalkArith.wf_i64 (by have:=hok.2.2.2.1;omega)) (WalkArith.wf_i64 (by have:=hok.2.2.2.2;omega))
 generalize hw1:(W.alloc (.cells #[.int .i64 P,.int .i64 L,.int .i64 R,.int .i64 B,.int .i64 p] 58)).alloc (.cells #[.int .i64 0,.int .i64 0] 94)=w1
 have HB1:Aside0 (Below W.heap.size W w1):=⟨by rw [← hw1];exact ((Below.refl _ _).alloc (Nat.le_refl _) _).alloc (by simp<;>omega) _⟩
 have HL1:Aside0 (w1.heap.size=W.heap.size+2):=⟨by rw [← hw1];simp⟩
 have HE0:=Aside0.mk hE
 have HE1:Aside0 (EnvL k g P L qk qg qf b w1):=⟨hE.below HB1.out⟩
 have HS1:Aside0 (w1.heap[W.heap.size]?=some (.cells #[.int .i64 P,.int .i64 L,.int .i64 R,.int .i64 B,.int .i64 p] 58 (0,0))):=⟨by rw [← hw1,(MapKept.heap_alloc _ _).2 _ (by simp)];simpa using heap_alloc_new W (.cells #[.int .i64 P,.int .i64 L,.int .i64 R,.int .i64 B,.int .i64 p] 58)⟩
 have HR1:Aside0 (w1.heap[W.heap.size+1]?=some (.cells #[.int .i64 0,.int .i64 0] 94 (0,0))):=⟨by rw [← hw1];simpa using heap_alloc_new (W.alloc (.cells #[.int .i64 P,.int .i64 L,.int .i64 R,.int .i64 B,.int .i64 p] 58)) (.cells #[.int .i64 0,.int .i64 0] 94)⟩
 have hck:w1.cell? ⟨qk,0,none⟩=some (.map (some b)):=blk_cell HE1.out.known 0
 have hcg:w1.cell? ⟨qg,0,none⟩=some (.int .i64 g):=blk_cell HE1.out.game 0
 have hc0:w1.cell? ⟨W.heap.size,0,none⟩=some (.int .i64 P):=blk_cell HS1.out 0
 have hc1:w1.cell? ⟨W.heap.size,1,none⟩=some (.int .i64 L):=blk_cell HS1.out 1
 have hc2:w1.cell? ⟨W.heap.size,2,none⟩=some (.int .i64 R):=blk_cell HS1.out 2
 have hc3:w1.cell? ⟨W.heap.size,3,none⟩=some (.int .i64 B):=blk_cell HS1.out 3
 have hc4:w1.cell? ⟨W.heap.size,4,none⟩=some (.int .i64 p):=blk_cell HS1.out 4
 have hu:=Tryz.underlying25
 have hu2:=Tryz.underlying58
 have hlook:=HE1.out.memo.look standLaw Tryz.underlying92 (zero_pair w1) hkey
 unfold stV at hlook
 rcases hlook with hmiss|⟨v,hhit,hgood⟩
 ·have HL:=Aside0.mk hl
  have HA:Aside0 (leftL (predL k g P L d R B p) l true 0 0=some r):=⟨h⟩
  have HF:=Aside0.mk ih
  have HK:=Aside0.mk hkey
  have HG:Aside0 (goodL k g P L (stV P L R B p) (.agg #[.int .i64 r.1,.int .i64 r.2])):=⟨⟨R,B,p,d+1,r,rfl,rfl,h0⟩⟩
  have HLEN:=Aside0.mk hlen
  clear h h0 hl hok hkey hE ih hlen
  generalize hw2:(w1.alloc (.cells #[.int .i64 0,.int .i64 0] 94)).alloc (.cells #[.int .i64 0,.int .i64 0] 94)=w2
  have HB2:Aside0 (Below w1.heap.size w1 w2):=⟨by rw [← hw2];exact ((Below.refl _ _).alloc (Nat.le_refl _) _).alloc (by simp<;>omega) _⟩
  have HO2:Aside0 (w2.heap[w1.heap.size+1]?=some (.cells #[.int .i64 0,.int .i64 0] 94 (0,0))):=⟨by rw [← hw2];simpa using heap_alloc_new (w1.alloc (.cells #[.int .i64 0,.int .i64 0] 94)) (.cells #[.int .i64 0,.int .i64 0] 94)⟩
  have hq0:w2.cell? ⟨w1.heap.size+1,0,none⟩=some (.int .i64 0):=blk_cell HO2.out 0
  have hq1:w2.cell? ⟨w1.heap.size+1,1,none⟩=some (.int .i64 0):=blk_cell HO2.out 1
  have hz0:w2.frozen? ⟨w1.heap.size+1,0,none⟩=false:=blk_frozen HO2.out 0
  have hz1:w2.frozen? ⟨w1.heap.size+1,1,none⟩=false:=blk_frozen HO2.out 1
  generalize hw3:(w2.setCell ⟨w1.heap.size+1,0,none⟩ (.int .i64 0)).setCell ⟨w1.heap.size+1,1,none⟩ (.int .i64 0)=w3
  have HB3:Aside0 (Below w1.heap.size w1 w3):=⟨by rw [← hw3];exact below_set (below_set HB2.out (by omega)) (by omega)⟩
  have HS3:Aside0 (LoopL k g P L qk qg qf b W.heap.size (w1.heap.size+1) W R B p 0 0 w3):=⟨⟨HE1.out.below HB3.out,blk_below HS1.out HB3.out,blk_below HR1.out HB3.out,by rw [← hw3];simpa using blk_set (blk_set HO2.out 0 (.int .i64 0)) 1 (.int .i64 0),grown_below (below_then HB1.out HB1.out.size HB3.out)⟩⟩
  obtain ⟨hdf,hd0,hd1,hd2,hd3,hd4,_⟩:=HS3.out.cells
  have hdg:w3.cell? ⟨qg,0,none⟩=some (.int .i64 g):=blk_cell HS3.out.env.game 0
  go_enter Tryz.func57,Tryz.ntmps57
  go_wp2_with (go_at_call 30;refine (impl_Field_points.calls k P L R B g p l _ HL.out).mono ?_;rintro e w4 ⟨v4,rfl,ho4,hb4⟩;obtain ⟨A4,c4,rfl,hl4,hC4⟩:=Kd.R_reads ho4)
  have HN4:Aside0 (w3.heap.size≤w4.heap.size∧w1.heap.size+2≤w3.heap.size):=⟨hb4.size,by have e:=blk_lt HS3.out.out;omega⟩
  have HS4:Aside0 (LoopL k g P L qk qg qf b W.heap.size (w1.heap.size+1) W R B p 0 0 w4):=⟨HS3.out.below hb4⟩
  have HO4:Aside0 (Kd.R (Kd.int .i64) 2 w4 w3.heap.size (fun k_=>w3.heap.size≤k_) (.slice A4 l.length c4) l):=⟨Kd.R_mono (Kd.R_bound ho4) (fun _ hk=>hk.2.1)⟩
  have HBM:Aside0 (b<w3.heap.size):=⟨HS3.out.env.memo.lt⟩
  clear ho4 hb4 hC4 hw1 hw2 hw3 hq0 hq1 hz0 hz1 hmiss hck hcg hc0 hc1 hc2 hc3 hc4 hdf hd0 hd1 hd2 hd3 hd4 hdg HS3 HB3 HO2 HB2 HR1 HS1 HE1 HE0 HL
  go_loopg [9,10,11,28] l.length (fun qg' _ _ _ s28 wr=>∃ (kk:Nat) (lo hi:Int),kk≤l.length∧l.length-kk≤qg'∧s28=.int .i64 kk∧Aside0 (LoopL k g P L qk qg qf b W.heap.size (w1.heap.size+1) W R B p lo hi wr)∧Aside0 (Kd.R (Kd.int .i64) 2 wr w3.heap.size (fun k_=>w3.heap.size≤k_) (.slice A4 l.length c4) l)∧Aside0 (leftL (predL k g P L d R B p) (l.drop kk) (decide (kk=0)) lo hi=some r))
  case atStart=>exact ⟨0,0,0,Nat.zero_le _,by omega,rfl,HS4,HO4,⟨by simpa using HA.out⟩⟩
  case round=>
   obtain ⟨kk,lo,hi,hkk,hgg,rfl,HS,HO,HA2⟩:=hrel
   clear HA HS4 HO4
   have hlen16:=HLEN.out
   by_cases hlt:kk<l.length
   ·have hltz:(kk:Int)<(l.length:Int):=by omega
    obtain ⟨n,hn,HA3⟩:∃ n,predL k g P L d R B p l[kk]=some n∧Aside0 (leftL (predL k g P L d R B p) (l.drop (kk+1)) false (if decide (kk=0)=true then wrap64 (n.1+1) else if wrap64 (n.1+1)<lo then wrap64 (n.1+1) else lo) (mx hi (wrap64 (n.2+1)))=some r):=by
     have h1:=HA2.out
     rw [List.drop_eq_getElem_cons hlt] at h1
     simp only [leftL] at h1
     obtain ⟨n,hn,h2⟩:=Option.bind_eq_some_iff.1 h1
     exact ⟨n,hn,⟨h2⟩⟩
    have hrd:=(Kd.R_reads' HO.out).2.2
    obtain ⟨ad,e,hx⟩:=Kd.at_int hrd kk (by omega) hltz
    have hy:rd l (kk:Int)=l[kk]:=by simp [rd,List.getD_eq_getElem?_getD,hlt]
    rw [hy,Int.toNat_natCast] at hx
    generalize l[kk]=y at hx hn
    cases e
    obtain ⟨m,hm,hq⟩:=Option.bind_eq_some_iff.1 hn
    have e:=coloured_form P L R B p y m hm
    generalize m.2.2.1=R1 at e hq
    generalize m.2.2.2=B1 at e hq
    subst e
    have HM:=Aside0.mk hm
    have HQ:=Aside0.mk hq
    obtain ⟨hdf,hd0,hd1,hd2,hd3,hd4,_⟩:=HS.out.cells
    clear hm hq hn hy hrd HA2
    go_wp2_with fail
    have HLd:=Aside0.mk (LoopS.start HS.out).drew
    refine start_ (n:=14) (S:=(fun w'=>w'.cell? ⟨qf,0,none⟩=some (.func (.func 57) #[] #[.pointer (some ⟨qk,0,none⟩),.pointer (some ⟨qg,0,none⟩),.pointer (some ⟨qf,0,none⟩)])∧w'.cell? ⟨W.heap.size,0,none⟩=some (.int .i64 P)∧w'.cell? ⟨W.heap.size,1,none⟩=some (.int .i64 L)∧w'.cell? ⟨W.heap.size,2,none⟩=some (.int .i64 R)∧w'.cell? ⟨W.heap.size,3,none⟩=some (.int .i64 B)∧w'.cell? ⟨W.heap.size,4,none⟩=some (.int .i64 p))) (ds:=[13]) #[false,false,false,false,false,false,false,false,false,false,false,false,false,false] (by kernel_rfl) rfl rfl ⟨HLd.out.cells.1,HLd.out.cells.2.1,HLd.out.cells.2.2.1,HLd.out.cells.2.2.2.1,HLd.out.cells.2.2.2.2.1,HLd.out.cells.2.2.2.2.2.1⟩ (fun hHeld=>?_);refine with_tabW leftR8_tab leftR8_bits (fun HT_ HW_=>?_)
    generalize wr.drew=wd at HLd hHeld ⊢
    refine pure_ (i:=1) (N:=some 34) (v:=?_) (a':=?_) #[false,true,false,false,false,false,false,false,false,false,false,false,false,false] rfl rfl (any_of HT_.out (by kernel_rfl)) (fun _ _ _ h=>h) (Or.inl ⟨by rfl,?_⟩) ?_ ?_
    rotate_left
    ·intro w'
     go_simp
     with_reducible rfl
    rotate_left
    ·simp only [Act.put,List.setIfInBounds_toArray,List.set_cons_zero,List.set_cons_succ,i64_w,i32_w]
     rfl
    refine pure_ (i:=3) (N:=some 36) (v:=?_) (a':=?_) #[false,true,false,true,false,false,false,false,false,false,false,false,false,false] rfl rfl (any_of HT_.out (by kernel_rfl)) (fun _ _ _ h=>h) (Or.inl ⟨by rfl,?_⟩) ?_ ?_
    rotate_left
    ·intro w'
     go_simp
     with_reducible rfl
    rotate_left
    ·simp only [Act.put,List.setIfInBounds_toArray,List.set_cons_zero,List.set_cons_succ,i64_w,i32_w]
     rfl
    refine pure_ (i:=5) (N:=some 38) (v:=?_) (a':=?_) #[false,true,false,true,false,true,false,false,false,false,false,false,false,false] rfl rfl (any_of HT_.out (by kernel_rfl)) (fun _ _ _ h=>h) (Or.inl ⟨by rfl,?_⟩) ?_ ?_
    rotate_left
    ·intro w'
     go_simp
     with_reducible rfl
    rotate_left
    ·simp only [Act.put,List.setIfInBounds_toArray,List.set_cons_zero,List.set_cons_succ,i64_w,i32_w]
     rfl
    refine pure_ (i:=7) (N:=some 40) (v:=?_) (a':=?_) #[false,true,false,true,false,true,false,true,false,false,false,false,false,false] rfl rfl (any_of HT_.out (by kernel_rfl)) (fun _ _ _ h=>h) (Or.inl ⟨by rfl,?_⟩) ?_ ?_
    rotate_left
    ·intro w'
     go_simp
     with_reducible rfl
    rotate_left
    ·simp only [Act.put,List.setIfInBounds_toArray,List.set_cons_zero,List.set_cons_succ,i64_w,i32_w]
     rfl
    refine take_ (i:=0) (N:=some 33) (v:=?_) (a':=?_) #[true,true,false,true,false,true,false,true,false,false,false,false,false,false] rfl rfl (take_ofW HT_.out HW_.out (by kernel_rfl)) (fun _ _ _ h=>h) (Or.inl ⟨by rfl,?_⟩) hHeld ?_ ?_
    rotate_left
    ·rintro w' ⟨s0,s1,s2,s3,s4,s5⟩
     go_simp
     with_reducible rfl
    rotate_left
    ·simp only [Act.put,List.setIfInBounds_toArray,List.set_cons_zero,List.set_cons_succ,i64_w,i32_w]
     rfl
    refine take_ (i:=2) (N:=some 35) (v:=?_) (a':=?_) #[true,true,true,true,false,true,false,true,false,false,false,false,false,false] rfl rfl (take_ofW HT_.out HW_.out (by kernel_rfl)) (fun _ _ _ h=>h) (Or.inl ⟨by rfl,?_⟩) hHeld ?_ ?_
    rotate_left
    ·rintro w' ⟨s0,s1,s2,s3,s4,s5⟩
     go_simp
     with_reducible rfl
    rotate_left
    ·simp only [Act.put,List.setIfInBounds_toArray,List.set_cons_zero,List.set_cons_succ,i64_w,i32_w]
     rfl
    refine take_ (i:=4) (N:=some 37) (v:=?_) (a':=?_) #[true,true,true,true,true,true,false,true,false,false,false,false,false,false] rfl rfl (take_ofW HT_.out HW_.out (by kernel_rfl)) (fun _ _ _ h=>h) (Or.inl ⟨by rfl,?_⟩) hHeld ?_ ?_
    rotate_left
    ·rintro w' ⟨s0,s1,s2,s3,s4,s5⟩
     go_simp
     with_reducible rfl
    rotate_left
    ·simp only [Act.put,List.setIfInBounds_toArray,List.set_cons_zero,List.set_cons_succ,i64_w,i32_w]
     rfl
    refine take_ (i:=8) (N:=some 41) (v:=?_) (a':=?_) #[true,true,true,true,true,true,false,true,true,false,false,false,false,false] rfl rfl (take_ofW HT_.out HW_.out (by kernel_rfl)) (fun _ _ _ h=>h) (Or.inl ⟨by rfl,?_⟩) hHeld ?_ ?_
    rotate_left
    ·rintro w' ⟨s0,s1,s2,s3,s4,s5⟩
     go_simp
     with_reducible rfl
    rotate_left
    ·simp only [Act.put,List.setIfInBounds_toArray,List.set_cons_zero,List.set_cons_succ,i64_w,i32_w]
     rfl
    refine pure_ (i:=9) (N:=some 42) (v:=?_) (a':=?_) #[true,true,true,true,true,true,false,true,true,true,false,false,false,false] rfl rfl (any_of HT_.out (by kernel_rfl)) (fun _ _ _ h=>h) (Or.inl ⟨by rfl,?_⟩) ?_ ?_
    rotate_left
    ·intro w'
     go_simp
     with_reducible rfl
    rotate_left
    ·simp only [Act.put,List.setIfInBounds_toArray,List.set_cons_zero,List.set_cons_succ,i64_w,i32_w]
     rfl
    refine join_ (σ:=Nat) 1 #[true,true,true,true,true,true,true,true,true,true,true,true,true,false] (fun s_=>[(39,.agg #[.int .i64 P,.int .i64 L,.int .i64 R1,.int .i64 B1]),(43,.agg #[.int .i64 P,.int .i64 L,.int .i64 R1,.int .i64 B1,.int .i64 (wrap64 (1-p))]),(44,.agg #[.int .i64 n.1,.int .i64 n.2]),(11,.pointer (some ⟨s_,0,none⟩))]) (fun s_ w'=>(w'.cell? ⟨qf,0,none⟩=some (.func (.func 57) #[] #[.pointer (some ⟨qk,0,none⟩),.pointer (some ⟨qg,0,none⟩),.pointer (some ⟨qf,0,none⟩)])∧w'.cell? ⟨W.heap.size,0,none⟩=some (.int .i64 P)∧w'.cell? ⟨W.heap.size,1,none⟩=some (.int .i64 L)∧w'.cell? ⟨W.heap.size,2,none⟩=some (.int .i64 R)∧w'.cell? ⟨W.heap.size,3,none⟩=some (.int .i64 B)∧w'.cell? ⟨W.heap.size,4,none⟩=some (.int .i64 p))∧(LoopS k g P L qk qg qf b W.heap.size (w1.heap.size+1) W R B p lo hi wr w')∧w'.heap[s_]?=some (.cells #[.int .i64 0,.int .i64 0] 94 (0,0))∧wr.heap.size≤s_) ?_ ?_
    rotate_left
    ·intro hCont
     refine two_ (i:=6) (j:=12) (Ni:=some 39) (Nj:=some 11) #[true,true,true,true,true,true,true,true,true,true,false,false,false,false] #[true,true,true,true,true,true,false,true,true,true,false,false,true,false] rfl rfl rfl rfl (two_of HT_.out (by kernel_rfl)) (by decide) (by decide) (fun K hK=>?_) (fun K hK=>?_)
     ·skip
      refine goes_ Tryz.func31 (by kernel_rfl) rfl #[.agg #[.int .i64 P,.int .i64 L,.int .i64 R,.int .i64 B],.int .i64 p,.int .i64 y] (by rfl) rfl rfl (by (try simp only [List.map_toArray,List.map_cons,List.map_nil]);first|done|rfl) ?_
      refine (impl_Field_coloured.calls P L R B p y P L R1 B1 _ HM.out).mono ?_
      rintro e w21 ⟨rfl,hb21⟩
      refine ⟨_,rfl,?_⟩
      have HL21:=Aside0.mk (LoopS.below HLd hb21)
      clear hb21
      refine hK.out _ _ ⟨HL21.out.cells.1,HL21.out.cells.2.1,HL21.out.cells.2.2.1,HL21.out.cells.2.2.2.1,HL21.out.cells.2.2.2.2.1,HL21.out.cells.2.2.2.2.2.1⟩ (fun hHeld=>?_)
      clear hK K
      refine norm_ (a':=?_) ?_ ?_
      rotate_left
      ·show Act.put _ (some 39) _=_
       simp only [Act.put,List.setIfInBounds_toArray,List.set_cons_zero,List.set_cons_succ,i64_w,i32_w]
       rfl
      refine pure_ (i:=10) (N:=some 43) (v:=?_) (a':=?_) #[true,true,true,true,true,true,true,true,true,true,true,false,false,false] rfl rfl (any_of HT_.out (by kernel_rfl)) (fun _ _ _ h=>h) (Or.inl ⟨by rfl,?_⟩) ?_ ?_
      rotate_left
      ·intro w'
       go_simp
       with_reducible rfl
      rotate_left
      ·simp only [Act.put,List.setIfInBounds_toArray,List.set_cons_zero,List.set_cons_succ,i64_w,i32_w]
       rfl
      refine two_ (i:=11) (j:=12) (Ni:=some 44) (Nj:=some 11) #[true,true,true,true,true,true,true,true,true,true,true,true,false,false] #[true,true,true,true,true,true,true,true,true,true,true,false,true,false] rfl rfl rfl rfl (two_of HT_.out (by kernel_rfl)) (by decide) (by decide) (fun K hK=>?_) (fun K hK=>?_)
      ·skip
       refine call_ 57 #[.agg #[.int .i64 P,.int .i64 L,.int .i64 R1,.int .i64 B1,.int .i64 (wrap64 (1-p))],.pointer (some ⟨qk,0,none⟩),.pointer (some ⟨qg,0,none⟩),.pointer (some ⟨qf,0,none⟩)] (by rfl) rfl (by have he_:=enters_ Tryz.func57 (by kernel_rfl) rfl #[.agg #[.int .i64 P,.int .i64 L,.int .i64 R1,.int .i64 B1,.int .i64 (wrap64 (1-p))],.pointer (some ⟨qk,0,none⟩),.pointer (some ⟨qg,0,none⟩),.pointer (some ⟨qf,0,none⟩)];unfold execOp;simp [resolve,Deferred.ofValue,invoke,Act.eval,he_]) ?_
       refine (findL HF.out HL21 HQ).mono ?_
       rintro e w22 ⟨rfl,hh22⟩
       refine ⟨_,rfl,?_⟩
       have HL22:=Aside0.mk hh22.1
       clear hh22
       refine hK.out _ _ ⟨HL22.out.cells.1,HL22.out.cells.2.1,HL22.out.cells.2.2.1,HL22.out.cells.2.2.2.1,HL22.out.cells.2.2.2.2.1,HL22.out.cells.2.2.2.2.2.1⟩ (fun hHeld=>?_)
       clear hK K
       refine norm_ (a':=?_) ?_ ?_
       rotate_left
       ·show Act.put _ (some 44) _=_
        simp only [Act.put,List.setIfInBounds_toArray,List.set_cons_zero,List.set_cons_succ,i64_w,i32_w]
        rfl
       refine one_ (i:=12) (N:=some 11) #[true,true,true,true,true,true,true,true,true,true,true,true,true,false] rfl rfl (one_of HT_.out (by kernel_rfl)) (by decide) (fun K hK=>?_)
       refine box_step ?hg (N:=11) ?hd (cs:=#[.int .i64 0,.int .i64 0]) (t:=94) ?hr ?_;(case hd=>rfl);(case hg=>rfl);(case hr=>first|(go_simp;done)|(go_simp;rfl))
       intro gx hgx w23 hbx hb23
       have HL23:=Aside0.mk (LoopS.below HL22 hb23)
       have hgx2:wr.heap.size≤gx:=(by rw [hgx];exact HL22.out.2.size)
       clear hb23
       refine hK.out _ _ ⟨HL23.out.cells.1,HL23.out.cells.2.1,HL23.out.cells.2.2.1,HL23.out.cells.2.2.2.1,HL23.out.cells.2.2.2.2.1,HL23.out.cells.2.2.2.2.2.1⟩ (fun hHeld=>?_)
       clear hK K
       refine norm_ (a':=?_) ?_ ?_
       rotate_left
       ·show Act.put _ (some 11) _=_
        simp only [Act.put,List.setIfInBounds_toArray,List.set_cons_zero,List.set_cons_succ,i64_w,i32_w]
        rfl
       exact norm_ (by simp only [putAll,Act.put,List.setIfInBounds_toArray,List.set_cons_zero,List.set_cons_succ]) (hCont gx _ ⟨hHeld,HL23.out,hbx,hgx2⟩)
      ·skip
       refine box_step ?hg (N:=11) ?hd (cs:=#[.int .i64 0,.int .i64 0]) (t:=94) ?hr ?_;(case hd=>rfl);(case hg=>rfl);(case hr=>first|(go_simp;done)|(go_simp;rfl))
       intro gx hgx w23 hbx hb23
       have HL23:=Aside0.mk (LoopS.below HL21 hb23)
       have hgx2:wr.heap.size≤gx:=(by rw [hgx];exact HL21.out.2.size)
       clear hb23
       refine hK.out _ _ ⟨HL23.out.cells.1,HL23.out.cells.2.1,HL23.out.cells.2.2.1,HL23.out.cells.2.2.2.1,HL23.out.cells.2.2.2.2.1,HL23.out.cells.2.2.2.2.2.1⟩ (fun hHeld=>?_)
       clear hK K
       refine norm_ (a':=?_) ?_ ?_
       rotate_left
       ·show Act.put _ (some 11) _=_
        simp only [Act.put,List.setIfInBounds_toArray,List.set_cons_zero,List.set_cons_succ,i64_w,i32_w]
        rfl
       refine one_ (i:=11) (N:=some 44) #[true,true,true,true,true,true,true,true,true,true,true,true,true,false] rfl rfl (one_of HT_.out (by kernel_rfl)) (by decide) (fun K hK=>?_)
       refine call_ 57 #[.agg #[.int .i64 P,.int .i64 L,.int .i64 R1,.int .i64 B1,.int .i64 (wrap64 (1-p))],.pointer (some ⟨qk,0,none⟩),.pointer (some ⟨qg,0,none⟩),.pointer (some ⟨qf,0,none⟩)] (by rfl) rfl (by have he_:=enters_ Tryz.func57 (by kernel_rfl) rfl #[.agg #[.int .i64 P,.int .i64 L,.int .i64 R1,.int .i64 B1,.int .i64 (wrap64 (1-p))],.pointer (some ⟨qk,0,none⟩),.pointer (some ⟨qg,0,none⟩),.pointer (some ⟨qf,0,none⟩)];unfold execOp;simp [resolve,Deferred.ofValue,invoke,Act.eval,he_]) ?_
       refine (findL HF.out HL23 HQ).mono ?_
       rintro e w22 ⟨rfl,hh22⟩
       refine ⟨_,rfl,?_⟩
       have HL24:=Aside0.mk hh22.1
       have hbx:=blk_grown hbx hh22.2 (HL23.out.1.env.memo.ne hbx)
       clear hh22
       refine hK.out _ _ ⟨HL24.out.cells.1,HL24.out.cells.2.1,HL24.out.cells.2.2.1,HL24.out.cells.2.2.2.1,HL24.out.cells.2.2.2.2.1,HL24.out.cells.2.2.2.2.2.1⟩ (fun hHeld=>?_)
       clear hK K
       refine norm_ (a':=?_) ?_ ?_
       rotate_left
       ·show Act.put _ (some 44) _=_
        simp only [Act.put,List.setIfInBounds_toArray,List.set_cons_zero,List.set_cons_succ,i64_w,i32_w]
        rfl
       exact norm_ (by simp only [putAll,Act.put,List.setIfInBounds_toArray,List.set_cons_zero,List.set_cons_succ]) (hCont gx _ ⟨hHeld,HL24.out,hbx,hgx2⟩)
     ·skip
      refine box_step ?hg (N:=11) ?hd (cs:=#[.int .i64 0,.int .i64 0]) (t:=94) ?hr ?_;(case hd=>rfl);(case hg=>rfl);(case hr=>first|(go_simp;done)|(go_simp;rfl))
      intro gx hgx w23 hbx hb23
      have HL23:=Aside0.mk (LoopS.below HLd hb23)
      have hgx2:wr.heap.size≤gx:=(by rw [hgx];exact HLd.out.2.size)
      clear hb23
      refine hK.out _ _ ⟨HL23.out.cells.1,HL23.out.cells.2.1,HL23.out.cells.2.2.1,HL23.out.cells.2.2.2.1,HL23.out.cells.2.2.2.2.1,HL23.out.cells.2.2.2.2.2.1⟩ (fun hHeld=>?_)
      clear hK K
      refine norm_ (a':=?_) ?_ ?_
      rotate_left
      ·show Act.put _ (some 11) _=_
       simp only [Act.put,List.setIfInBounds_toArray,List.set_cons_zero,List.set_cons_succ,i64_w,i32_w]
       rfl
      refine one_ (i:=6) (N:=some 39) #[true,true,true,true,true,true,true,true,true,true,false,false,true,false] rfl rfl (one_of HT_.out (by kernel_rfl)) (by decide) (fun K hK=>?_)
      refine goes_ Tryz.func31 (by kernel_rfl) rfl #[.agg #[.int .i64 P,.int .i64 L,.int .i64 R,.int .i64 B],.int .i64 p,.int .i64 y] (by rfl) rfl rfl (by (try simp only [List.map_toArray,List.map_cons,List.map_nil]);first|done|rfl) ?_
      refine (impl_Field_coloured.calls P L R B p y P L R1 B1 _ HM.out).mono ?_
      rintro e w21 ⟨rfl,hb21⟩
      refine ⟨_,rfl,?_⟩
      have HL24:=Aside0.mk (LoopS.below HL23 hb21)
      have hbx:=blk_below hbx hb21
      clear hb21
      refine hK.out _ _ ⟨HL24.out.cells.1,HL24.out.cells.2.1,HL24.out.cells.2.2.1,HL24.out.cells.2.2.2.1,HL24.out.cells.2.2.2.2.1,HL24.out.cells.2.2.2.2.2.1⟩ (fun hHeld=>?_)
      clear hK K
      refine norm_ (a':=?_) ?_ ?_
      rotate_left
      ·show Act.put _ (some 39) _=_
       simp only [Act.put,List.setIfInBounds_toArray,List.set_cons_zero,List.set_cons_succ,i64_w,i32_w]
       rfl
      refine pure_ (i:=10) (N:=some 43) (v:=?_) (a':=?_) #[true,true,true,true,true,true,true,true,true,true,true,false,true,false] rfl rfl (any_of HT_.out (by kernel_rfl)) (fun _ _ _ h=>h) (Or.inl ⟨by rfl,?_⟩) ?_ ?_
      rotate_left
      ·intro w'
       go_simp
       with_reducible rfl
      rotate_left
      ·simp only [Act.put,List.setIfInBounds_toArray,List.set_cons_zero,List.set_cons_succ,i64_w,i32_w]
       rfl
      refine one_ (i:=11) (N:=some 44) #[true,true,true,true,true,true,true,true,true,true,true,true,true,false] rfl rfl (one_of HT_.out (by kernel_rfl)) (by decide) (fun K hK=>?_)
      refine call_ 57 #[.agg #[.int .i64 P,.int .i64 L,.int .i64 R1,.int .i64 B1,.int .i64 (wrap64 (1-p))],.pointer (some ⟨qk,0,none⟩),.pointer (some ⟨qg,0,none⟩),.pointer (some ⟨qf,0,none⟩)] (by rfl) rfl (by have he_:=enters_ Tryz.func57 (by kernel_rfl) rfl #[.agg #[.int .i64 P,.int .i64 L,.int .i64 R1,.int .i64 B1,.int .i64 (wrap64 (1-p))],.pointer (some ⟨qk,0,none⟩),.pointer (some ⟨qg,0,none⟩),.pointer (some ⟨qf,0,none⟩)];unfold execOp;simp [resolve,Deferred.ofValue,invoke,Act.eval,he_]) ?_
      refine (findL HF.out HL24 HQ).mono ?_
      rintro e w22 ⟨rfl,hh22⟩
      refine ⟨_,rfl,?_⟩
      have HL25:=Aside0.mk hh22.1
      have hbx:=blk_grown hbx hh22.2 (HL24.out.1.env.memo.ne hbx)
      clear hh22
      refine hK.out _ _ ⟨HL25.out.cells.1,HL25.out.cells.2.1,HL25.out.cells.2.2.1,HL25.out.cells.2.2.2.1,HL25.out.cells.2.2.2.2.1,HL25.out.cells.2.2.2.2.2.1⟩ (fun hHeld=>?_)
      clear hK K
      refine norm_ (a':=?_) ?_ ?_
      rotate_left
      ·show Act.put _ (some 44) _=_
       simp only [Act.put,List.setIfInBounds_toArray,List.set_cons_zero,List.set_cons_succ,i64_w,i32_w]
       rfl
      exact norm_ (by simp only [putAll,Act.put,List.setIfInBounds_toArray,List.set_cons_zero,List.set_cons_succ]) (hCont gx _ ⟨hHeld,HL25.out,hbx,hgx2⟩)
    ·rintro gx w20 ⟨hHeld,hLS,hbx,hgx⟩
     refine norm_ (a':=?_) ?_ ?_
     rotate_left
     ·simp only [putAll,Act.put,List.setIfInBounds_toArray,List.set_cons_zero,List.set_cons_succ]
      rfl
     refine last_ (i:=13) (N:=none) #[true,true,true,true,true,true,true,true,true,true,true,true,true,true] rfl rfl (one_of HT_.out (by kernel_rfl)) (by decide) (fun K hK=>?_)
     have hx0:=blk_cell hbx 0
     have hx1:=blk_cell hbx 1
     have hz0:=blk_frozen hbx 0
     have hz1:=blk_frozen hbx 1
     refine skip_ (w1:=?_) (by rfl) rfl ?_ ?_
     rotate_left
     ·go_simp
      rfl
     refine hK.out _ _ ?_
     clear hK K
     refine done_ (done_of HT_.out (by kernel_rfl)) ?_
     have HWK:Aside0 (wrap64 ((kk:Int)+1)=((kk+1:Nat):Int)):=⟨by unfold wrap64;omega⟩
     have hg21:=set2_grownL w20 gx (.int .i64 n.1) (.int .i64 n.2)
     have hbx21:=blk_set (blk_set hbx 0 (.int .i64 n.1)) 1 (.int .i64 n.2)
     generalize (w20.setCell ⟨gx,0,none⟩ (.int .i64 n.1)).setCell ⟨gx,1,none⟩ (.int .i64 n.2)=w21 at hg21 hbx21 ⊢
     have HX21:Aside0 (w21.heap[gx]?=some (.cells #[.int .i64 n.1,.int .i64 n.2] 94 (0,0))):=⟨by simpa using hbx21⟩
     have HS21:Aside0 (LoopL k g P L qk qg qf b W.heap.size (w1.heap.size+1) W R B p lo hi w21):=⟨LoopL.away HS.out hLS.1 hg21 hgx⟩
     have HO21:Aside0 (Kd.R (Kd.int .i64) 2 w21 w3.heap.size (fun k_=>w3.heap.size≤k_) (.slice (some ad) l.length c4) l):=⟨Kd.R_mono (Kd.R_grown (Kd.R_grown (Kd.R_bound HO.out) hLS.2 (fun k_ hk e=>by have h_:=hk.1;have:=Option.some.inj e;have:=HBM.out;omega)) hg21 (fun k_ hk e=>by have h_:=hk.2.2.1;have:=Option.some.inj e;omega)) (fun _ hk=>hk.1)⟩
     have hgo:w1.heap.size+1≠gx:=fun e=>by have:=lt_of_block HS.out.out;omega
     have hgo2:gx≠w1.heap.size+1:=fun e=>hgo e.symm
     have HGO:Aside0 (W.heap.size+1≠w1.heap.size+1∧W.heap.size≤w1.heap.size+1):=⟨by have:=HL1.out;omega,by have:=HL1.out;omega⟩
     have hn0:w21.cell? ⟨gx,0,none⟩=some (.int .i64 n.1):=blk_cell HX21.out 0
     have hn1:w21.cell? ⟨gx,1,none⟩=some (.int .i64 n.2):=blk_cell HX21.out 1
     have ho0:w21.cell? ⟨w1.heap.size+1,0,none⟩=some (.int .i64 lo):=blk_cell HS21.out.out 0
     have ho1:w21.cell? ⟨w1.heap.size+1,1,none⟩=some (.int .i64 hi):=blk_cell HS21.out.out 1
     have hoz0:=blk_frozen HS21.out.out 0
     have hoz1:=blk_frozen HS21.out.out 1
     clear hx0 hx1 hz0 hz1 hbx hbx21 hg21 hLS hgx HT_ HW_ HLd hHeld HS HO HQ HM hx hdf hd0 hd1 hd2 hd3 hd4
     have fin0:∀ y:Int,Aside0 (LoopL k g P L qk qg qf b W.heap.size (w1.heap.size+1) W R B p lo y (w21.setCell ⟨w1.heap.size+1,1,none⟩ (.int .i64 y)))∧Aside0 (Kd.R (Kd.int .i64) 2 (w21.setCell ⟨w1.heap.size+1,1,none⟩ (.int .i64 y)) w3.heap.size (fun k_=>w3.heap.size≤k_) (.slice (some ad) l.length c4) l):=fun y=>
      ⟨⟨LoopL.setOut HS21.out HGO.out.1 HGO.out.2 (set1_grownL w21 _ 1 _) (by simpa using blk_set HS21.out.out 1 (.int .i64 y))⟩,⟨Kd.R_mono (Kd.R_grown (Kd.R_types HO21.out HS21.out.out (by decide)) (set1_grownL w21 _ 1 _) (fun k_ hk e=>hk.2 (Option.some.inj e))) (fun _ hk=>hk.1)⟩⟩
     have fin1:∀ x y:Int,Aside0 (LoopL k g P L qk qg qf b W.heap.size (w1.heap.size+1) W R B p x y ((w21.setCell ⟨w1.heap.size+1,0,none⟩ (.int .i64 x)).setCell ⟨w1.heap.size+1,1,none⟩ (.int .i64 y)))∧Aside0 (Kd.R (Kd.int .i64) 2 ((w21.setCell ⟨w1.heap.size+1,0,none⟩ (.int .i64 x)).setCell ⟨w1.heap.size+1,1,none⟩ (.int .i64 y)) w3.heap.size (fun k_=>w3.heap.size≤k_) (.slice (some ad) l.length c4) l):=fun x y=>
      ⟨⟨LoopL.setOut HS21.out HGO.out.1 HGO.out.2 (set2_grownL w21 _ _ _) (by simpa using blk_set (blk_set HS21.out.out 0 (.int .i64 x)) 1 (.int .i64 y))⟩,⟨Kd.R_mono (Kd.R_grown (Kd.R_types HO21.out HS21.out.out (by decide)) (set2_grownL w21 _ _ _) (fun k_ hk e=>hk.2 (Option.some.inj e))) (fun _ hk=>hk.1)⟩⟩
     have FIN:=Aside0.mk (And.intro fin0 fin1)
     clear fin0 fin1
     have hm1:∀ q:Int,IntKind.i64.wrap q=wrap64 q:=i64_w
     generalize ha1:wrap64 (n.1+1)=x1 at HA3
     generalize ha2:wrap64 (n.2+1)=y1 at HA3
     by_cases hk0:kk=0
     ·have hkz:((kk:Int)==0)=true:=beq_iff_eq.2 (by omega)
      have hkz2:(kk==0)=true:=beq_iff_eq.2 hk0
      have HA5:Aside0 (leftL (predL k g P L d R B p) (l.drop (kk+1)) false x1 (mx hi y1)=some r):=⟨by have h1:=HA3.out;rwa [if_pos (decide_eq_true hk0)] at h1⟩
      clear hk0 HA3
      go_wp2
      ·go_roundg (l.length-(kk+1))
       case measure=>omega
       case rel=>exact ⟨kk+1,x1,y1,by omega,by omega,by rw [HWK.out],(FIN.out.2 x1 y1).1,(FIN.out.2 x1 y1).2,⟨by have h1:=HA5.out;rw [mx_newL h] at h1;rw [show decide (kk+1=0)=false from decide_eq_false (by omega)];exact h1⟩⟩
      ·go_roundg (l.length-(kk+1))
       case measure=>omega
       case rel=>exact ⟨kk+1,x1,hi,by omega,by omega,by rw [HWK.out],(FIN.out.2 x1 hi).1,(FIN.out.2 x1 hi).2,⟨by have h1:=HA5.out;rw [mx_oldL h] at h1;rw [show decide (kk+1=0)=false from decide_eq_false (by omega)];exact h1⟩⟩
     ·have hkz:((kk:Int)==0)=false:=beq_eq_false_iff_ne.2 (by omega)
      have hkz2:(kk==0)=false:=beq_eq_false_iff_ne.2 hk0
      by_cases hlo:x1<lo
      ·have hlz:decide (x1<lo)=true:=decide_eq_true hlo
       have HA5:Aside0 (leftL (predL k g P L d R B p) (l.drop (kk+1)) false x1 (mx hi y1)=some r):=⟨by have h1:=HA3.out;rwa [if_neg (by simpa using hk0),if_pos hlo] at h1⟩
       clear hk0 HA3
       go_wp2
       ·go_roundg (l.length-(kk+1))
        case measure=>omega
        case rel=>exact ⟨kk+1,x1,y1,by omega,by omega,by rw [HWK.out],(FIN.out.2 x1 y1).1,(FIN.out.2 x1 y1).2,⟨by have h1:=HA5.out;rw [mx_newL h] at h1;rw [show decide (kk+1=0)=false from decide_eq_false (by omega)];exact h1⟩⟩
       ·go_roundg (l.length-(kk+1))
        case measure=>omega
        case rel=>exact ⟨kk+1,x1,hi,by omega,by omega,by rw [HWK.out],(FIN.out.2 x1 hi).1,(FIN.out.2 x1 hi).2,⟨by have h1:=HA5.out;rw [mx_oldL h] at h1;rw [show decide (kk+1=0)=false from decide_eq_false (by omega)];exact h1⟩⟩
      ·have hlz:decide (x1<lo)=false:=decide_eq_false hlo
       have HA5:Aside0 (leftL (predL k g P L d R B p) (l.drop (kk+1)) false lo (mx hi y1)=some r):=⟨by have h1:=HA3.out;rwa [if_neg (by simpa using hk0),if_neg hlo] at h1⟩
       clear hk0 HA3
       go_wp2
       ·go_roundg (l.length-(kk+1))
        case measure=>omega
        case rel=>exact ⟨kk+1,lo,y1,by omega,by omega,by rw [HWK.out],(FIN.out.1 y1).1,(FIN.out.1 y1).2,⟨by have h1:=HA5.out;rw [mx_newL h] at h1;rw [show decide (kk+1=0)=false from decide_eq_false (by omega)];exact h1⟩⟩
       ·go_roundg (l.length-(kk+1))
        case measure=>omega
        case rel=>exact ⟨kk+1,lo,hi,by omega,by omega,by rw [HWK.out],(FIN.out.1 hi).1,(FIN.out.1 hi).2,⟨by have h1:=HA5.out;rw [mx_oldL h] at h1;rw [show decide (kk+1=0)=false from decide_eq_false (by omega)];exact h1⟩⟩
   ·have hltz:¬ (kk:Int)<(l.length:Int):=by omega
    have HA4:Aside0 ((lo,hi)=r):=⟨by
     have h1:=HA2.out
     rw [List.drop_eq_nil_of_le (by omega)] at h1
     simp only [leftL,Option.some.injEq] at h1
     exact h1⟩
    have HG2:Aside0 (goodL k g P L (stV P L R B p) (.agg #[.int .i64 lo,.int .i64 hi])):=⟨by have h1:=HG.out;rw [← HA4.out] at h1;exact h1⟩
    obtain ⟨hdf,hd0,hd1,hd2,hd3,hd4,_⟩:=HS.out.cells
    have hck:wr.cell? ⟨qk,0,none⟩=some (.map (some b)):=blk_cell HS.out.env.known 0
    have ho0:wr.cell? ⟨w1.heap.size+1,0,none⟩=some (.int .i64 lo):=blk_cell HS.out.out 0
    have ho1:wr.cell? ⟨w1.heap.size+1,1,none⟩=some (.int .i64 hi):=blk_cell HS.out.out 1
    clear HA2
    go_wp2_with (at_mapUpdate;refine wpList_mapUpdate_memo _ rfl _ _ _ 92 rfl 58 94 standLaw Tryz.underlying92 (goodL k g P L) b rfl HS.out.env.memo (goodL_few k g P L) _ _ kl rfl rfl HK.out HG2.out ?_;intro w5 hm5 hg5;have HS5:=Aside0.mk (HS.out.grown (HS.out.env.grown hg5 hm5) hg5);have hr0:w5.cell? ⟨W.heap.size+1,0,none⟩=some (.int .i64 0):=(blk_cell HS5.out.res 0);have hr1:w5.cell? ⟨W.heap.size+1,1,none⟩=some (.int .i64 0):=(blk_cell HS5.out.res 1);have hf0:=blk_frozen HS5.out.res 0;have hf1:=blk_frozen HS5.out.res 1;have hp0:w5.cell? ⟨w1.heap.size+1,0,none⟩=some (.int .i64 lo):=(blk_cell HS5.out.out 0);have hp1:w5.cell? ⟨w1.heap.size+1,1,none⟩=some (.int .i64 hi):=(blk_cell HS5.out.out 1))
    have HF:Aside0 (((w5.setCell ⟨W.heap.size+1,0,none⟩ (.int .i64 lo)).setCell ⟨W.heap.size+1,1,none⟩ (.int .i64 hi)).heap[W.heap.size+1]?=some (.cells #[.int .i64 lo,.int .i64 hi] 94 (0,0))):=⟨by simpa using blk_set (blk_set HS5.out.res 0 (.int .i64 lo)) 1 (.int .i64 hi)⟩
    have HRET:=LoopL.ret HS5.out (Nat.le_succ _) (set2_grownL w5 (W.heap.size+1) (.int .i64 lo) (.int .i64 hi))
    refine bodyPost_ret (results_cell_row rfl _ _ (W.heap.size+1) 94 #[.int .i64 lo,.int .i64 hi] (0,0) _ rfl HF.out Tryz.underlying94 rfl (by kernel_rfl)) rfl ?_
    refine ⟨?_,HRET⟩
    rw [← HA4.out]
 ·obtain ⟨R',B',p',d',r',e,rfl,hw⟩:=hgood
  obtain ⟨rfl,rfl,rfl⟩:=stV_inj e
  obtain rfl:=leftF_one k g P L _ _ R B p r r' h0 hw
  clear h h0 hw e hl hlen hok hkey hE ih
  obtain ⟨x,y⟩:=r
  simp only at hhit ⊢
  generalize hw2:w1.alloc (.cells #[.int .i64 x,.int .i64 y] 94)=w2
  have HB2:Aside0 (Below w1.heap.size w1 w2):=⟨by rw [← hw2];exact (Below.refl _ _).alloc (Nat.le_refl _) _⟩
  have HR2:Aside0 (w2.heap[W.heap.size+1]?=some (.cells #[.int .i64 0,.int .i64 0] 94 (0,0))):=⟨blk_below HR1.out HB2.out⟩
  have HN2:Aside0 (w2.heap[w1.heap.size]?=some (.cells #[.int .i64 x,.int .i64 y] 94 (0,0))):=⟨by rw [← hw2];exact heap_alloc_new w1 _⟩
  have hr0:w2.cell? ⟨W.heap.size+1,0,none⟩=some (.int .i64 0):=blk_cell HR2.out 0
  have hr1:w2.cell? ⟨W.heap.size+1,1,none⟩=some (.int .i64 0):=blk_cell HR2.out 1
  have hf0:w2.frozen? ⟨W.heap.size+1,0,none⟩=false:=blk_frozen HR2.out 0
  have hf1:w2.frozen? ⟨W.heap.size+1,1,none⟩=false:=blk_frozen HR2.out 1
  have hn0:w2.cell? ⟨w1.heap.size,0,none⟩=some (.int .i64 x):=blk_cell HN2.out 0
  have hn1:w2.cell? ⟨w1.heap.size,1,none⟩=some (.int .i64 y):=blk_cell HN2.out 1
  go_enter Tryz.func57,Tryz.ntmps57
  go_wp2_with fail
  have HF:Aside0 (((w2.setCell ⟨W.heap.size+1,0,none⟩ (.int .i64 x)).setCell ⟨W.heap.size+1,1,none⟩ (.int .i64 y)).heap[W.heap.size+1]?=some (.cells #[.int .i64 x,.int .i64 y] 94 (0,0))):=⟨by simpa using blk_set (blk_set HR2.out 0 (.int .i64 x)) 1 (.int .i64 y)⟩
  have HBF:Aside0 (Below W.heap.size W ((w2.setCell ⟨W.heap.size+1,0,none⟩ (.int .i64 x)).setCell ⟨W.heap.size+1,1,none⟩ (.int .i64 y))):=⟨below_set (below_set (below_then HB1.out HB1.out.size HB2.out) (by omega)) (by omega)⟩
  refine bodyPost_ret (results_cell_row rfl _ _ (W.heap.size+1) 94 #[.int .i64 x,.int .i64 y] (0,0) _ rfl HF.out Tryz.underlying94 rfl (by kernel_rfl)) rfl ?_
  exact ⟨rfl,HE0.out.below HBF.out,grown_below HBF.out⟩
theorem left_at (k:Nat) (g P L:Int) (d:Nat):FindL k g P L d:=by
 induction d with
 |zero=>intro R B p r W qk qg qf b _ h;cases h
 |succ d ih=>exact left_step k g P L d ih
def impl_MovesLeft.f (k:Nat) (f0 f1 f2 f3 g:Int):Option (Int×Int×Int):=(impl_fieldCode.f k f0 f1 f2 f3 g 0).bind fun c=>if c=0 then (leftF k g f0 f1 12 f2 f3 0).bind fun r=>some (r.1,r.2,0) else some (0,0,c)
theorem impl_MovesLeft.mono:∀ a0 a1 a2 a3 a4 k,LeO (impl_MovesLeft.f k a0 a1 a2 a3 a4) (impl_MovesLeft.f (k+1) a0 a1 a2 a3 a4):=by
 intro a0 a1 a2 a3 a4 k
 unfold impl_MovesLeft.f
 exact LeO.bind (impl_fieldCode.mono _ _ _ _ _ _ k) (fun c=>LeO.ite (LeO.bind (leftF_mono _ _ _ _ k _ _ _) (fun l=>LeO.refl _)) (LeO.refl _))
def HeldG (w:World) (f0 f1 f2 f3 g:Int) (w':World):Prop:=w'.heap[w.heap.size]?=some (.cells #[.int .i64 f0,.int .i64 f1,.int .i64 f2,.int .i64 f3] 25 (0,0))∧w'.heap[w.heap.size+1]?=some (.cells #[.int .i64 g] 2 (0,0))∧Below w.heap.size w w'
section
variable {w a a':World} {f0 f1 f2 f3 g:Int}
theorem HeldG.cells (h:HeldG w f0 f1 f2 f3 g a):a.cell? ⟨w.heap.size,0,none⟩=some (.int .i64 f0)∧a.cell? ⟨w.heap.size,1,none⟩=some (.int .i64 f1)∧a.cell? ⟨w.heap.size,2,none⟩=some (.int .i64 f2)∧a.cell? ⟨w.heap.size,3,none⟩=some (.int .i64 f3)∧a.cell? ⟨w.heap.size+1,0,none⟩=some (.int .i64 g)∧Aside0 (HeldG w f0 f1 f2 f3 g a):=
 ⟨blk_cell h.1 0,blk_cell h.1 1,blk_cell h.1 2,blk_cell h.1 3,blk_cell h.2.1 0,⟨h⟩⟩
theorem HeldG.below (h:Aside0 (HeldG w f0 f1 f2 f3 g a)) (hb:Below a.heap.size a a'):HeldG w f0 f1 f2 f3 g a':=⟨blk_below h.out.1 hb,blk_below h.out.2.1 hb,below_then h.out.2.2 h.out.2.2.size hb⟩
end
theorem allocs2G (w:World) (o0 o1:Obj):((w.alloc o0).alloc o1).heap[w.heap.size]?=some o0∧((w.alloc o0).alloc o1).heap[w.heap.size+1]?=some o1∧Below w.heap.size w ((w.alloc o0).alloc o1):=by
 refine ⟨?_,?_,((Below.refl _ _).alloc (Nat.le_refl _) _).alloc (by simp<;>omega) _⟩
 ·rw [(MapKept.heap_alloc _ _).2 _ (by simp)]
  exact (MapKept.heap_alloc w o0).1
 ·simpa using (MapKept.heap_alloc (w.alloc o0) o1).1
theorem allocs3G (w:World) (o0 o1 o2:Obj):(((w.alloc o0).alloc o1).alloc o2).heap[w.heap.size]?=some o0∧(((w.alloc o0).alloc o1).alloc o2).heap[w.heap.size+1]?=some o1 ∧
 (((w.alloc o0).alloc o1).alloc o2).heap[w.heap.size+2]?=some o2∧Below w.heap.size w (((w.alloc o0).alloc o1).alloc o2):=by
 refine ⟨?_,?_,?_,(((Below.refl _ _).alloc (Nat.le_refl _) _).alloc (by simp<;>omega) _).alloc (by simp<;>omega) _⟩
 ·rw [(MapKept.heap_alloc _ _).2 _ (by simp<;>omega),(MapKept.heap_alloc _ _).2 _ (by simp)]
  exact (MapKept.heap_alloc w o0).1
 ·rw [(MapKept.heap_alloc _ _).2 _ (by simp<;>omega)]
  simpa using (MapKept.heap_alloc (w.alloc o0) o1).1
 ·simpa using (MapKept.heap_alloc ((w.alloc o0).alloc o1) o2).1
set_option maxHeartbeats 4000000 in
theorem impl_MovesLeft.calls (k:Nat) (f0 f1 f2 f3 g:Int) (r1 r2 r3:Int) (w:World) (h:impl_MovesLeft.f k f0 f1 f2 f3 g=some (r1,r2,r3)):
 Calls Tryz.prog 22 #[.agg #[.int .i64 f0,.int .i64 f1,.int .i64 f2,.int .i64 f3],.int .i64 g] w fun e w'=>e=.returned (.tuple #[.int .i64 r1,.int .i64 r2,.int .i64 r3])∧Below w.heap.size w w':=by
 unfold impl_MovesLeft.f at h
 obtain ⟨c,hc,h⟩:=Option.bind_eq_some_iff.1 h
 generalize hw1:(w.alloc (.cells #[.int .i64 f0,.int .i64 f1,.int .i64 f2,.int .i64 f3] 25)).alloc (.cells #[.int .i64 g] 2)=w1
 obtain ⟨ha0,ha1,ha2⟩:=allocs2G w (.cells #[.int .i64 f0,.int .i64 f1,.int .i64 f2,.int .i64 f3] 25) (.cells #[.int .i64 g] 2)
 rw [hw1] at ha0 ha1 ha2
 have HK:Aside0 (HeldG w f0 f1 f2 f3 g w1):=⟨ha0,ha1,ha2⟩
 obtain ⟨hc0,hc1,hc2,hc3,hc4,_⟩:=HK.out.cells
 have hu:=Tryz.underlying25
 have hu2:=Tryz.underlying58
 have hu3:=Tryz.underlying94
 have HC:=Aside0.mk hc
 have hmm:=@run_makeMap Tryz.prog
 have hsf:∀ (W:World) (a:Addr) (m:Mode) (fn:Fn) (f c:Array Value),(store a (.func fn f c) m).run Tryz.prog W=stored Tryz.prog W a (.func fn f c) m:=fun W a m fn f c=>run_store Tryz.prog W a _ m rfl
 clear hc ha0 ha1 ha2
 by_cases e:c=0
 ·rw [if_pos e] at h
  subst e
  obtain ⟨⟨x1,x2⟩,hx,h⟩:=Option.bind_eq_some_iff.1 h
  simp only [Option.some.injEq,Prod.mk.injEq] at h
  obtain ⟨rfl,rfl,rfl⟩:=h
  have HX:=Aside0.mk hx
  clear hx
  go_enter Tryz.func22,Tryz.ntmps22
  go_wp2_with (first
   |(go_at_call 27;refine (impl_fieldCode.calls k f0 f1 f2 f3 g 0 0 _ HC.out).mono ?_;rintro e w2 ⟨rfl,hb2⟩;have HK2:=Aside0.mk (HeldG.below HK hb2);obtain ⟨ha0,ha1,ha2,ha3⟩:=allocs3G w2 (.map #[] 0) (.cells #[.map (some w2.heap.size)] 92) (.cells #[.func (.func 57) #[] #[.pointer (some ⟨w2.heap.size+1,0,none⟩),.pointer (some ⟨w.heap.size+1,0,none⟩),.pointer (some ⟨w2.heap.size+2,0,none⟩)]] 93);obtain ⟨w3,hw3⟩:∃ w3,((w2.alloc (.map #[] 0)).alloc (.cells #[.map (some w2.heap.size)] 92)).alloc (.cells #[.func (.func 57) #[] #[.pointer (some ⟨w2.heap.size+1,0,none⟩),.pointer (some ⟨w.heap.size+1,0,none⟩),.pointer (some ⟨w2.heap.size+2,0,none⟩)]] 93)=w3:=⟨_,rfl⟩;rw [hw3] at ha0 ha1 ha2 ha3;have HK3:=Aside0.mk (HeldG.below HK2 ha3);have HE3:Aside0 (EnvL k g f0 f1 (w2.heap.size+1) (w.heap.size+1) (w2.heap.size+2) w2.heap.size w3):=⟨⟨ha1,HK3.out.2.1,ha2,⟨#[],0,ha0,⟨by simp,MapKept.stamped_empty 0,by simp⟩,by simp⟩⟩⟩;have HSZ:Aside0 (w.heap.size≤w2.heap.size):=⟨HK2.out.2.2.size⟩;obtain ⟨hd0,hd1,hd2,hd3,hd4,_⟩:=HK3.out.cells;have hdf:=blk_cell HE3.out.find 0;clear ha0 ha1 ha2 ha3 hb2)
   |(go_at_call 57;refine (left_at k g f0 f1 12 f2 f3 0 (x1,x2) _ (w2.heap.size+1) (w.heap.size+1) (w2.heap.size+2) w2.heap.size HE3.out HX.out).mono ?_;rintro e w4 ⟨rfl,he4,hg4⟩;have HB4:Aside0 (Below w.heap.size w w4):=⟨HK3.out.2.2.grown hg4 HK3.out.2.2.size (fun k e=>by have:=Option.some.inj e;have:=HSZ.out;omega)⟩;simp only))
  have hx4:=heap_alloc_new w4 (.cells #[.int .i64 x1,.int .i64 x2] 94)
  have HB5:Aside0 (Below w.heap.size w (w4.alloc (.cells #[.int .i64 x1,.int .i64 x2] 94))):=⟨below_alloc HB4.out _⟩
  generalize w4.alloc (.cells #[.int .i64 x1,.int .i64 x2] 94)=w5 at hx4 HB5 ⊢
  have hy0:w5.cell? ⟨w4.heap.size,0,none⟩=some (.int .i64 x1):=blk_cell hx4 0
  have hy1:w5.cell? ⟨w4.heap.size,1,none⟩=some (.int .i64 x2):=blk_cell hx4 1
  go_region_with (fail)
  all_goals
   go_wp2
   go_ret3
   exact ⟨rfl,below_drew HB5.out⟩
 ·rw [if_neg e] at h
  simp only [Option.some.injEq,Prod.mk.injEq] at h
  obtain ⟨rfl,rfl,rfl⟩:=h
  have hne:(c !=0)=true:=by simpa using e
  go_enter Tryz.func22,Tryz.ntmps22
  go_wp2_with (go_at_call 27;refine (impl_fieldCode.calls k f0 f1 f2 f3 g 0 c _ HC.out).mono ?_;rintro e w2 ⟨rfl,hb2⟩)
  go_ret3
  exact ⟨rfl,(HeldG.below HK hb2).2.2⟩
end Go.Proofs.YtlmohkbimnhecaaGreat.Q
