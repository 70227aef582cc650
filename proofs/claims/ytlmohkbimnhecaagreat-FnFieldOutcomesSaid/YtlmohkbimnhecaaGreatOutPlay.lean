/-
  PlayField: the code, or the first best points one behind the other; told as the printed functions are.
-/
import Derived.Test.YtlmohkbimnhecaaGreatOutBest
namespace Go.Proofs.YtlmohkbimnhecaaGreat.Q
open Go.RowKit Go.Proofs.YtlmohkbimnhecaaGreatW.PrintWords Go.Proofs.YtlmohkbimnhecaaGreatW.PrintLast Go.Proofs.YtlmohkbimnhecaaGreatW.PrintMore
open Go.Maps (Keyed)
def playL (k:Nat) (g P L:Int):Nat→Int→Int→Int→List Int→Option (List Int)
 |0,_,_,_,_=>none
 |d+1,R,B,p,acc=>(bestF k g P L 12 R B p).bind fun bl=>(impl_Field_points.f k P L R B g p).bind fun pl=>if bl.length≤100∧pl.length≤100∧acc.length≤100 then if (bl++pl).length=0 then some acc else (impl_Field_coloured.f P L R B p (rd (bl++pl) 0)).bind fun m=>playL k g P L d m.2.2.1 m.2.2.2 (wrap64 (1-p)) (acc++[rd (bl++pl) 0]) else none
theorem playL_mono (g P L:Int) (d:Nat):∀ (k:Nat) (R B p:Int) (acc:List Int),LeO (playL k g P L d R B p acc) (playL (k+1) g P L d R B p acc):=by
 induction d with
 |zero=>intro k R B p acc;exact LeO.refl _
 |succ d ih=>
  intro k R B p acc
  exact LeO.bind (bestF_mono _ _ _ _ k _ _ _) (fun bl=>LeO.bind (impl_Field_points.mono _ _ _ _ _ _ k) (fun pl=>LeO.ite (LeO.ite (LeO.refl _) (LeO.bind (LeO.refl _) (fun m=>ih _ _ _ _ _))) (LeO.refl _)))
def impl_PlayField.f (k:Nat) (f0 f1 f2 f3 g p:Int):Option (List Int×Int):=
 (impl_fieldCode.f k f0 f1 f2 f3 g p).bind fun c=>if c=0 then (playL k g f0 f1 40 f2 f3 p []).bind fun l=>some (l,0) else some (([]:List Int),c)
theorem impl_PlayField.mono:∀ a0 a1 a2 a3 a4 a5 k,LeO (impl_PlayField.f k a0 a1 a2 a3 a4 a5) (impl_PlayField.f (k+1) a0 a1 a2 a3 a4 a5):=by
 intro a0 a1 a2 a3 a4 a5 k
 unfold impl_PlayField.f
 exact LeO.bind (impl_fieldCode.mono _ _ _ _ _ _ k) (fun c=>LeO.ite (LeO.bind (playL_mono _ _ _ _ k _ _ _ _) (fun l=>LeO.refl _)) (LeO.refl _))
structure LoopP (k:Nat) (g P L:Int) (gk gg gf b gs:Nat) (w0:World) (ok:Nat→Prop) (R B p:Int) (vo:Value) (acc:List Int) (w:World):Prop where
 env:EnvW k g P L gk gg gf b w
 bb:w0.heap.size≤b
 gq:w0.heap.size≤gs
 bel:Below w0.heap.size w0 w
 st:w.heap[gs]?=some (.cells #[.int .i64 P,.int .i64 L,.int .i64 R,.int .i64 B,.int .i64 p] 58 (0,0))
 out:Kd.R (Kd.int .i64) 2 w w0.heap.size ok vo acc
 og:some gg≠vo.ownBlock
section
variable {k:Nat} {g P L:Int} {gk gg gf b gs:Nat} {w0 w w':World} {ok:Nat→Prop} {R B p:Int} {vo:Value} {acc:List Int}
theorem LoopP.cells (h:LoopP k g P L gk gg gf b gs w0 ok R B p vo acc w):w.cell? ⟨gs,0,none⟩=some (.int .i64 P)∧w.cell? ⟨gs,1,none⟩=some (.int .i64 L)∧w.cell? ⟨gs,2,none⟩=some (.int .i64 R)∧w.cell? ⟨gs,3,none⟩=some (.int .i64 B)∧w.cell? ⟨gs,4,none⟩=some (.int .i64 p):=
 ⟨blk_cell h.st 0,blk_cell h.st 1,blk_cell h.st 2,blk_cell h.st 3,blk_cell h.st 4⟩
theorem LoopP.below (h:Aside0 (LoopP k g P L gk gg gf b gs w0 ok R B p vo acc w)) (hb:Below w.heap.size w w'):Aside0 (LoopP k g P L gk gg gf b gs w0 ok R B p vo acc w'):=
 ⟨⟨h.out.env.below hb,h.out.bb,h.out.gq,below_then h.out.bel h.out.bel.size hb,blk_below h.out.st hb,Kd.R_below h.out.out hb,h.out.og⟩⟩
theorem LoopP.narrow (h:Aside0 (LoopP k g P L gk gg gf b gs w0 ok R B p vo acc w)):Aside0 (LoopP k g P L gk gg gf b gs w0 (fun k_=>k_<w.heap.size) R B p vo acc w):=
 ⟨⟨h.out.env,h.out.bb,h.out.gq,h.out.bel,h.out.st,Kd.R_mono (Kd.R_bound h.out.out) (fun _ hk=>hk.2.2.1),h.out.og⟩⟩
theorem LoopP.wide (h:Aside0 (LoopP k g P L gk gg gf b gs w0 ok R B p vo acc w)):Aside0 (LoopP k g P L gk gg gf b gs w0 (fun _=>True) R B p vo acc w):=
 ⟨⟨h.out.env,h.out.bb,h.out.gq,h.out.bel,h.out.st,Kd.R_mono h.out.out (fun _ _=>trivial),h.out.og⟩⟩
theorem LoopP.grown (h:Aside0 (LoopP k g P L gk gg gf b gs w0 ok R B p vo acc w)) (he:EnvW k g P L gk gg gf b w') (hg:w.grownBy w' (some b)):Aside0 (LoopP k g P L gk gg gf b gs w0 ok R B p vo acc w'):=
 ⟨⟨he,h.out.bb,h.out.gq,h.out.bel.grown hg h.out.bel.size (fun k e=>by have:=Option.some.inj e;have:=h.out.bb;omega),blk_grown h.out.st hg (h.out.env.memo.ne h.out.st),Kd.R_mono (Kd.R_grown (Kd.R_bound h.out.out) hg (fun k hk e=>by
  obtain ⟨_,_,_,q,hq,cells,hc⟩:=hk
  exact h.out.env.memo.ne hc e)) (fun _ hk=>hk.1),h.out.og⟩⟩
theorem LoopP.row {wd:World} {v:Value} (h0:Aside0 (LoopP k g P L gk gg gf b gs w0 (fun k_=>k_<wd.heap.size) R B p vo acc w)) (hlt:gk<wd.heap.size∧gg<wd.heap.size∧gf<wd.heap.size∧b<wd.heap.size∧gs<wd.heap.size) (hv:∀ i,some i=v.ownBlock→wd.heap.size≤i) (hg:w.grownBy w' v.ownBlock) (hb:Below w0.heap.size w0 w'):
 Aside0 (LoopP k g P L gk gg gf b gs w0 (fun k_=>k_<wd.heap.size) R B p vo acc w'):=by
 have ne:∀ i,i<wd.heap.size→some i≠v.ownBlock:=fun i hi e=>by have:=hv i e;omega
 exact ⟨⟨⟨blk_grown h0.out.env.known hg (ne _ hlt.1),blk_grown h0.out.env.game hg (ne _ hlt.2.1),blk_grown h0.out.env.find hg (ne _ hlt.2.2.1),h0.out.env.memo.kept hg (ne _ hlt.2.2.2.1)⟩,h0.out.bb,h0.out.gq,hb,blk_grown h0.out.st hg (ne _ hlt.2.2.2.2),Kd.R_grown h0.out.out hg (fun k hk=>ne k hk),h0.out.og⟩⟩
theorem LoopP.lts (h:Aside0 (LoopP k g P L gk gg gf b gs w0 ok R B p vo acc w)):gk<w.heap.size∧gg<w.heap.size∧gf<w.heap.size∧b<w.heap.size∧gs<w.heap.size:=
 ⟨lt_of_block h.out.env.known,lt_of_block h.out.env.game,lt_of_block h.out.env.find,h.out.env.memo.lt,lt_of_block h.out.st⟩
end
theorem set1_grown (w:World) (g o:Nat) (a:Value):w.grownBy (w.setCell ⟨g,o,none⟩ a) (some g):=⟨rfl,rfl,rfl,by simp,fun k hk hn=>Below.heap_setCell _ _ _ _ (fun e=>hn (by rw [e]))⟩
theorem set5_grown (w:World) (g:Nat) (a b c d e:Value):w.grownBy (((((w.setCell ⟨g,0,none⟩ a).setCell ⟨g,1,none⟩ b).setCell ⟨g,2,none⟩ c).setCell ⟨g,3,none⟩ d).setCell ⟨g,4,none⟩ e) (some g):=
 grown_then (grown_then (grown_then (grown_then (set1_grown w g 0 a) (set1_grown _ g 1 b)) (set1_grown _ g 2 c)) (set1_grown _ g 3 d)) (set1_grown _ g 4 e)
theorem LoopP.put {k:Nat} {g P L:Int} {gk gg gf b gs:Nat} {w0 w:World} {ok:Nat→Prop} {R B p:Int} {vo:Value} {acc:List Int} (h:Aside0 (LoopP k g P L gk gg gf b gs w0 ok R B p vo acc w)) (R2 B2 p2:Int):
 Aside0 (LoopP k g P L gk gg gf b gs w0 ok R2 B2 p2 vo acc (((((w.setCell ⟨gs,0,none⟩ (.int .i64 P)).setCell ⟨gs,1,none⟩ (.int .i64 L)).setCell ⟨gs,2,none⟩ (.int .i64 R2)).setCell ⟨gs,3,none⟩ (.int .i64 B2)).setCell ⟨gs,4,none⟩ (.int .i64 p2))):=by
 have hg:=set5_grown w gs (.int .i64 P) (.int .i64 L) (.int .i64 R2) (.int .i64 B2) (.int .i64 p2)
 have hs:=blk_set (blk_set (blk_set (blk_set (blk_set h.out.st 0 (.int .i64 P)) 1 (.int .i64 L)) 2 (.int .i64 R2)) 3 (.int .i64 B2)) 4 (.int .i64 p2)
 have hq:=h.out.gq
 exact ⟨⟨⟨blk_grown h.out.env.known hg (fun e=>blk_ne h.out.env.known h.out.st (by decide) (Option.some.inj e)),blk_grown h.out.env.game hg (fun e=>blk_ne h.out.env.game h.out.st (by decide) (Option.some.inj e)),blk_grown h.out.env.find hg (fun e=>blk_ne h.out.env.find h.out.st (by decide) (Option.some.inj e)),h.out.env.memo.kept hg (fun e=>h.out.env.memo.ne h.out.st e.symm)⟩,
  h.out.bb,h.out.gq,below_set (below_set (below_set (below_set (below_set h.out.bel hq) hq) hq) hq) hq,by simpa using hs,Kd.R_mono (Kd.R_grown (Kd.R_types h.out.out h.out.st (by decide)) hg (fun k hk e=>hk.2 (Option.some.inj e))) (fun _ hk=>hk.1),h.out.og⟩⟩
theorem LoopP.fresh {k:Nat} {g P L:Int} {gk gg gf b gs gs2:Nat} {w0 w w':World} {ok:Nat→Prop} {R B p R2 B2 p2:Int} {vo:Value} {acc:List Int} (h:Aside0 (LoopP k g P L gk gg gf b gs w0 ok R B p vo acc w)) (hb:Below w.heap.size w w') (hs:w'.heap[gs2]?=some (.cells #[.int .i64 P,.int .i64 L,.int .i64 R2,.int .i64 B2,.int .i64 p2] 58 (0,0))) (hg:w0.heap.size≤gs2):Aside0 (LoopP k g P L gk gg gf b gs2 w0 ok R2 B2 p2 vo acc w'):=by
 have h2:=LoopP.below h hb
 exact ⟨⟨h2.out.env,h2.out.bb,hg,h2.out.bel,hs,h2.out.out,h2.out.og⟩⟩
theorem R_zero {w:World} {g base e:Nat} {ok:Nat→Prop} (h:w.heap[g]?=some (.cells #[] e (0,0))) (hb:base≤g) (hok:ok g):Kd.R (Kd.int .i64) e w base ok (.slice (some ⟨g,0,none⟩) 0 0) []:=
 ⟨fun k hk=>by
  have:g=k:=by simpa [Value.ownBlock] using hk
  subst this
  exact hok,[],⟨rfl,.inr ⟨g,0,#[],rfl,hb,h,Nat.le_refl _,by decide,rfl,rfl⟩⟩,Reps.none _ _⟩
def playR6T:Bool×List (List Nat×List Nat):=(true,[([],[]),([],[]),([],[]),([0,1,2],[0,1,2]),([],[]),([4],[4]),([],[]),([],[]),([7],[7]),([5,6,8,3],[5,6,8]),([3,9,9],[3,9]),([10,10,0,1,2,3,4,5,6,7,8,9,10],[10])])
def playR6B:List Nat:=[0,0,0,7,0,16,0,0,128,511,1023,2047]
theorem playR6_tab:rtab .any (opsOf Tryz.f6 6)=playR6T:=by kernel_rfl
theorem playR6_bits:waitsOk playR6T.2 playR6B=true:=by kernel_rfl
def playR10T:Bool×List (List Nat×List Nat):=(true,[([],[]),([0],[0]),([],[]),([2],[2]),([],[]),([4],[4]),([5],[5]),([1,3,6],[1,3,6]),([],[]),([8],[8]),([9],[9]),([7,10],[7,10]),([11,7,0,1,2,3,4,5,6,7,8,9,10,11],[11])])
def playR10B:List Nat:=[0,1,0,4,0,16,48,127,0,256,768,2047,4095]
theorem playR10_tab:rtab .any (opsOf Tryz.f6 10)=playR10T:=by kernel_rfl
theorem playR10_bits:waitsOk playR10T.2 playR10B=true:=by kernel_rfl
set_option linter.unusedSimpArgs false
set_option linter.unusedVariables false
set_option maxRecDepth 100000
set_option maxHeartbeats 8000000 in
theorem impl_PlayField.calls (k:Nat) (f0 f1 f2 f3 g p0:Int) (r1:List Int) (r2:Int) (w:World) (h:impl_PlayField.f k f0 f1 f2 f3 g p0=some (r1,r2)):
 Calls Tryz.prog 6 #[.agg #[.int .i64 f0,.int .i64 f1,.int .i64 f2,.int .i64 f3],.int .i64 g,.int .i64 p0] w fun e w'=>∃ v0_:Value,e=.returned (.tuple #[v0_,.int .i64 r2])∧Kd.R (Kd.int .i64) 2 w' w.heap.size (fun _=>True) v0_ r1∧Below w.heap.size w w':=by
 unfold impl_PlayField.f at h
 obtain ⟨c,hc,h⟩:=Option.bind_eq_some_iff.1 h
 generalize hw1:w.alloc (.cells #[.int .i64 f0,.int .i64 f1,.int .i64 f2,.int .i64 f3] 25)=w1
 have HK:Aside0 (HeldF w f0 f1 f2 f3 w1):=⟨by rw [← hw1];simpa using heap_alloc_new w (.cells #[.int .i64 f0,.int .i64 f1,.int .i64 f2,.int .i64 f3] 25),by rw [← hw1];exact (Below.refl _ _).alloc (Nat.le_refl _) _⟩
 obtain ⟨hc0,hc1,hc2,hc3,_⟩:=held_cells HK.out
 have hu:=Tryz.underlying25
 have hu2:=Tryz.underlying58
 have HC:=Aside0.mk hc
 clear hc
 by_cases e:c=0
 ·rw [if_pos e] at h
  subst e
  obtain ⟨x,hx,h⟩:=Option.bind_eq_some_iff.1 h
  simp only [Option.some.injEq,Prod.mk.injEq] at h
  obtain ⟨rfl,rfl⟩:=h
  have HX:=Aside0.mk hx
  clear hx
  go_enter Tryz.func6,Tryz.ntmps6
  go_wp2_with (first
   |(go_at_call 27;refine (impl_fieldCode.calls k f0 f1 f2 f3 g p0 0 _ HC.out).mono ?_;rintro e w2 ⟨rfl,hb2⟩;have HK2:=Aside0.mk (held_below HK hb2);obtain ⟨hd0,hd1,hd2,hd3,_⟩:=held_cells HK2.out)
   |(go_at_call 28;refine (fieldWins_calls k g f0 f1 _).mono ?_;rintro e w3 ⟨qk,qg,qf,b,rfl,he3,hb3,hlt⟩;have HK3:=Aside0.mk (held_below HK2 hb3);have hsz:=HK2.out.2.size;generalize hw5:w3.alloc (.cells #[] 2)=w5;have hb5:Below w3.heap.size w3 w5:=(by rw [← hw5];exact below_alloc (Below.refl _ _) _);have hr5:=(by rw [← hw5];exact heap_alloc_new w3 _:w5.heap[w3.heap.size]?=some (.cells #[] 2 (0,0)));have HK5:=Aside0.mk (held_below HK3 hb5);obtain ⟨he0,he1,he2,he3',_⟩:=held_cells HK5.out))
  have hb6:Below w5.heap.size w5 (w5.alloc (.cells #[.int .i64 f0,.int .i64 f1,.int .i64 f2,.int .i64 f3,.int .i64 p0] 58)):=below_alloc (Below.refl _ _) _
  have hs6:=heap_alloc_new w5 (.cells #[.int .i64 f0,.int .i64 f1,.int .i64 f2,.int .i64 f3,.int .i64 p0] 58)
  generalize w5.alloc (.cells #[.int .i64 f0,.int .i64 f1,.int .i64 f2,.int .i64 f3,.int .i64 p0] 58)=w6 at hb6 hs6 ⊢
  have HP6:Aside0 (LoopP k g f0 f1 qk qg qf b w5.heap.size w (fun _=>True) f2 f3 p0 (.slice (some ⟨w3.heap.size,0,none⟩) 0 0) [] w6):=⟨⟨(he3.below hb5).below hb6,Nat.le_trans hsz hlt,HK5.out.2.size,below_then HK5.out.2 HK5.out.2.size hb6,hs6,R_zero (blk_below hr5 hb6) HK3.out.2.size trivial,fun e=>by have h_:qg=w3.heap.size:=Option.some.inj e;have:=lt_of_block he3.game;omega⟩⟩
  clear hb6 hs6 hb5 hr5 hw5 he3 hb3 hlt hsz HK5 HK3 HK2 hb2 HK hw1 hc0 hc1 hc2 hc3 hd0 hd1 hd2 hd3 he0 he1 he2 he3' h
  go_loopg [10,11,12] 40 (fun gg' s10 s11 _ wr=>∃ (vo:Value) (gs:Nat) (R B p:Int) (acc:List Int),s10=vo∧s11=.pointer (some ⟨gs,0,none⟩)∧Aside0 (LoopP k g f0 f1 qk qg qf b gs w (fun _=>True) R B p vo acc wr)∧Aside0 (playL k g f0 f1 gg' R B p acc=some x))
  case atStart=>exact ⟨_,_,f2,f3,p0,[],rfl,rfl,HP6,HX⟩
  case round=>
   obtain ⟨vo,gs,R,B,p,acc,rfl,rfl,HP,HA⟩:=hrel
   clear HX HP6
   obtain ⟨Ao,co,rfl,hco,_⟩:=Kd.R_reads HP.out.out
   cases gk with
   |zero=>exact absurd HA.out (by simp [playL])
   |succ m=>
    have h1:=HA.out
    simp only [playL] at h1
    obtain ⟨bl,hbl,h1⟩:=Option.bind_eq_some_iff.1 h1
    obtain ⟨pl,hpl,h1⟩:=Option.bind_eq_some_iff.1 h1
    have HBL:=Aside0.mk hbl
    have HPL:=Aside0.mk hpl
    have hinfo2:(Tryz.prog.info? 2).map (fun i=>(i.zero,i.size,i.bytes))=some (some (.int .i64 0),1,8):=by kernel_rfl
    split at h1
    rotate_left
    ·cases h1
    rename_i hlens
    obtain ⟨hl1,hl2,hl3⟩:=hlens
    clear hbl hpl HA
    go_wp2_with fail
    have HPd:=LoopP.narrow (LoopP.below HP (below_drew (Below.refl _ _)))
    refine start_ (n:=12) (S:=(fun w'=>w'.cell? ⟨gs,0,none⟩=some (.int .i64 f0)∧w'.cell? ⟨gs,1,none⟩=some (.int .i64 f1)∧w'.cell? ⟨gs,2,none⟩=some (.int .i64 R)∧w'.cell? ⟨gs,3,none⟩=some (.int .i64 B)∧w'.cell? ⟨gs,4,none⟩=some (.int .i64 p))) (ds:=[]) #[false,false,false,false,false,false,false,false,false,false,false,false] (by kernel_rfl) rfl rfl HPd.out.cells (fun hHeld=>?_);refine with_tabW playR6_tab playR6_bits (fun HT_ HW_=>?_)
    generalize wr.drew=wd at HPd hHeld ⊢
    refine pure_ (i:=1) (N:=some 27) (v:=?_) (a':=?_) #[false,true,false,false,false,false,false,false,false,false,false,false] rfl rfl (any_of HT_.out (by kernel_rfl)) (fun _ _ _ h=>h) (Or.inl ⟨by rfl,?_⟩) ?_ ?_
    rotate_left
    ·intro w'
     go_simp
     with_reducible rfl
    rotate_left
    ·simp only [Act.put,List.setIfInBounds_toArray,List.set_cons_zero,List.set_cons_succ,i64_w,i32_w]
     rfl
    refine pure_ (i:=2) (N:=some 28) (v:=?_) (a':=?_) #[false,true,true,false,false,false,false,false,false,false,false,false] rfl rfl (any_of HT_.out (by kernel_rfl)) (fun _ _ _ h=>h) (Or.inl ⟨by rfl,?_⟩) ?_ ?_
    rotate_left
    ·intro w'
     go_simp
     with_reducible rfl
    rotate_left
    ·simp only [Act.put,List.setIfInBounds_toArray,List.set_cons_zero,List.set_cons_succ,i64_w,i32_w]
     rfl
    refine pure_ (i:=4) (N:=some 30) (v:=?_) (a':=?_) #[false,true,true,false,true,false,false,false,false,false,false,false] rfl rfl (any_of HT_.out (by kernel_rfl)) (fun _ _ _ h=>h) (Or.inl ⟨by rfl,?_⟩) ?_ ?_
    rotate_left
    ·intro w'
     go_simp
     with_reducible rfl
    rotate_left
    ·simp only [Act.put,List.setIfInBounds_toArray,List.set_cons_zero,List.set_cons_succ,i64_w,i32_w]
     rfl
    refine pure_ (i:=6) (N:=some 32) (v:=?_) (a':=?_) #[false,true,true,false,true,false,true,false,false,false,false,false] rfl rfl (any_of HT_.out (by kernel_rfl)) (fun _ _ _ h=>h) (Or.inl ⟨by rfl,?_⟩) ?_ ?_
    rotate_left
    ·intro w'
     go_simp
     with_reducible rfl
    rotate_left
    ·simp only [Act.put,List.setIfInBounds_toArray,List.set_cons_zero,List.set_cons_succ,i64_w,i32_w]
     rfl
    refine pure_ (i:=7) (N:=some 33) (v:=?_) (a':=?_) #[false,true,true,false,true,false,true,true,false,false,false,false] rfl rfl (any_of HT_.out (by kernel_rfl)) (fun _ _ _ h=>h) (Or.inl ⟨by rfl,?_⟩) ?_ ?_
    rotate_left
    ·intro w'
     go_simp
     with_reducible rfl
    rotate_left
    ·simp only [Act.put,List.setIfInBounds_toArray,List.set_cons_zero,List.set_cons_succ,i64_w,i32_w]
     rfl
    refine take_ (i:=0) (N:=some 26) (v:=?_) (a':=?_) #[true,true,true,false,true,false,true,true,false,false,false,false] rfl rfl (take_ofW HT_.out HW_.out (by kernel_rfl)) (fun _ _ _ h=>h) (Or.inl ⟨by rfl,?_⟩) hHeld ?_ ?_
    rotate_left
    ·rintro w' ⟨s0,s1,s2,s3,s4⟩
     go_simp
     with_reducible rfl
    rotate_left
    ·simp only [Act.put,List.setIfInBounds_toArray,List.set_cons_zero,List.set_cons_succ,i64_w,i32_w]
     rfl
    refine take_ (i:=5) (N:=some 31) (v:=?_) (a':=?_) #[true,true,true,false,true,true,true,true,false,false,false,false] rfl rfl (take_ofW HT_.out HW_.out (by kernel_rfl)) (fun _ _ _ h=>h) (Or.inl ⟨by rfl,?_⟩) hHeld ?_ ?_
    rotate_left
    ·rintro w' ⟨s0,s1,s2,s3,s4⟩
     go_simp
     with_reducible rfl
    rotate_left
    ·simp only [Act.put,List.setIfInBounds_toArray,List.set_cons_zero,List.set_cons_succ,i64_w,i32_w]
     rfl
    refine take_ (i:=8) (N:=some 34) (v:=?_) (a':=?_) #[true,true,true,false,true,true,true,true,true,false,false,false] rfl rfl (take_ofW HT_.out HW_.out (by kernel_rfl)) (fun _ _ _ h=>h) (Or.inl ⟨by rfl,?_⟩) hHeld ?_ ?_
    rotate_left
    ·rintro w' ⟨s0,s1,s2,s3,s4⟩
     go_simp
     with_reducible rfl
    rotate_left
    ·simp only [Act.put,List.setIfInBounds_toArray,List.set_cons_zero,List.set_cons_succ,i64_w,i32_w]
     rfl
    refine one_ (i:=3) (N:=some 29) #[true,true,true,true,true,true,true,true,true,false,false,false] rfl rfl (one_of HT_.out (by kernel_rfl)) (by decide) (fun K hK=>?_)
    refine goes_ Tryz.func29 (by kernel_rfl) rfl #[.agg #[.int .i64 f0,.int .i64 f1,.int .i64 R,.int .i64 B,.int .i64 p],.int .i64 g,.func (.func 66) #[] #[.pointer (some ⟨qk,0,none⟩),.pointer (some ⟨qg,0,none⟩),.pointer (some ⟨qf,0,none⟩)]] (by rfl) rfl rfl (by (try simp only [List.map_toArray,List.map_cons,List.map_nil]);first|done|rfl) ?_
    refine (bestPoints_calls k g f0 f1 12 R B p bl w _ qk qg qf b HPd.out.env HPd.out.bel HPd.out.bb HBL.out).mono ?_
    rintro e w10 ⟨v10,rfl,ho10,he10,hg10⟩
    refine ⟨_,rfl,?_⟩
    have HP10:=LoopP.grown HPd he10 hg10
    have HO10:=Aside0.mk ho10
    have HS10:Aside0 (wd.heap.size≤w10.heap.size):=⟨hg10.size⟩
    have HLT:=LoopP.lts HPd
    clear ho10 he10 hg10
    refine hK.out _ _ HP10.out.cells (fun hHeld=>?_)
    clear hK K
    refine norm_ (a':=?_) ?_ ?_
    rotate_left
    ·show Act.put _ (some 29) _=_
     simp only [Act.put,List.setIfInBounds_toArray,List.set_cons_zero,List.set_cons_succ,i64_w,i32_w]
     rfl
    refine one_ (i:=9) (N:=some 35) #[true,true,true,true,true,true,true,true,true,true,false,false] rfl rfl (one_of HT_.out (by kernel_rfl)) (by decide) (fun K hK=>?_)
    refine goes_ Tryz.func30 (by kernel_rfl) rfl #[.agg #[.int .i64 f0,.int .i64 f1,.int .i64 R,.int .i64 B],.int .i64 g,.int .i64 p] (by rfl) rfl rfl (by (try simp only [List.map_toArray,List.map_cons,List.map_nil]);first|done|rfl) ?_
    refine (impl_Field_points.calls k f0 f1 R B g p pl _ HPL.out).mono ?_
    rintro e w11 ⟨v11,rfl,ho11,hb11⟩
    refine ⟨_,rfl,?_⟩
    obtain ⟨A11,c11,rfl,hl11,hC11⟩:=Kd.R_reads ho11
    have HP11:=LoopP.below HP10 hb11
    have HO11:=Aside0.mk (Kd.R_below HO10.out hb11)
    have HC11:=Aside0.mk (Kd.R_reads' ho11).2.2
    have HSZ:Aside0 (wd.heap.size≤w11.heap.size):=⟨Nat.le_trans HS10.out hb11.size⟩
    clear ho11 hb11 HO10 HP10
    refine hK.out _ _ HP11.out.cells (fun hHeld=>?_)
    clear hK K
    refine norm_ (a':=?_) ?_ ?_
    rotate_left
    ·show Act.put _ (some 35) _=_
     simp only [Act.put,List.setIfInBounds_toArray,List.set_cons_zero,List.set_cons_succ,i64_w,i32_w]
     rfl
    refine one_ (i:=10) (N:=some 36) #[true,true,true,true,true,true,true,true,true,true,true,false] rfl rfl (one_of HT_.out (by kernel_rfl)) (by decide) (fun K hK=>?_)
    refine Kd.R_append_rows_step (Kd.int .i64) (w0:=w) w.heap.size (by rfl) (.tmp 29) (.tmp 35) 28 2 (.int .i64 0) 8 rfl Tryz.underlying28 hinfo2 rfl (by decide) (by omega) v10 bl pl A11 pl.length c11 (fun k_=>wd.heap.size≤k_) (fun _=>False) rfl rfl HO11.out HC11.out (fun _ _ h=>h) (fun _ h=>h.elim) ?aF HP11.out.bel HP11.out.bel.size ?aL ?_
    (case aF=>exact (fun k_ hk=>Nat.le_trans HSZ.out hk))
    (case aL=>omega)
    intro v12 w12 ho12 hb12 hg12 hat12
    have HP12:=LoopP.row HP11 HLT (fun i e=>HO11.out.1 i e.symm) hg12 hb12
    have HO12:=Aside0.mk ho12
    clear ho12 hb12 hg12 hat12 HO11 HC11 HP11
    refine hK.out _ _ HP12.out.cells (fun hHeld=>?_)
    clear hK K
    refine norm_ (a':=?_) ?_ ?_
    rotate_left
    ·show Act.put _ (some 36) _=_
     simp only [Act.put,List.setIfInBounds_toArray,List.set_cons_zero,List.set_cons_succ,i64_w,i32_w]
     rfl
    refine pure_ (i:=11) (N:=some 12) (v:=?_) (a':=?_) #[true,true,true,true,true,true,true,true,true,true,true,true] rfl rfl (any_of HT_.out (by kernel_rfl)) (fun _ _ _ h=>h) (Or.inl ⟨by rfl,?_⟩) ?_ ?_
    rotate_left
    ·intro w'
     go_simp
     with_reducible rfl
    rotate_left
    ·simp only [Act.put,List.setIfInBounds_toArray,List.set_cons_zero,List.set_cons_succ,i64_w,i32_w]
     rfl
    refine done_ (done_of HT_.out (by kernel_rfl)) ?_
    generalize hq:bl++pl=q at h1 HO12
    have hqlen:q.length≤200:=by rw [← hq];simp;omega
    clear hq HBL HPL HS10 HSZ HPd hl1 hl2
    obtain ⟨A12,c12,rfl,hl12,hC12⟩:=Kd.R_reads HO12.out
    by_cases hz:q.length=0
    ·rw [if_pos hz] at h1
     obtain rfl:=Option.some.inj h1
     obtain rfl:=List.eq_nil_of_length_eq_zero hz
     clear h1 hz
     go_wp2
     go_ret2
     exact ⟨_,rfl,Kd.R_mono HP12.out.out (fun _ _=>trivial),HP12.out.bel⟩
    ·rw [if_neg hz] at h1
     have hzb:((q.length:Int)==0)=false:=beq_eq_false_iff_ne.2 (by omega)
     have hzc:(q.length==0)=false:=beq_eq_false_iff_ne.2 (by omega)
     have hzd:0<q.length:=by omega
     obtain ⟨ad,e,hx⟩:=Kd.at_int hC12 0 (by omega) (by omega)
     cases e
     generalize rd q 0=z at hx h1
     have hx0:w12.cell? ad=some (.int .i64 z):=by simpa [Addr.add] using hx
     obtain ⟨m1,hm,h1⟩:=Option.bind_eq_some_iff.1 h1
     have e:=coloured_form f0 f1 R B p z m1 hm
     generalize m1.2.2.1=R1 at e h1
     generalize m1.2.2.2=B1 at e h1
     subst e
     have HM:=Aside0.mk hm
     have HA2:=Aside0.mk h1
     clear h1 hm hx hC12
     go_wp2_with (at_builtin;refine Kd.R_append (Kd.int .i64) (w0:=w) w.heap.size rfl (.tmp 41) (.tmp 45) 28 2 (.int .i64 0) 8 rfl Tryz.underlying28 hinfo2 rfl (by decide) (by omega) (.slice Ao acc.length co) acc z [.int .i64 z] (fun _=>True) (fun _=>False) rfl rfl ?aP (fun _ hk=>hk.elim) ?aF ?aO ?aB ?aS ?aL ?_;(case aP=>exact rfl);(case aB=>exact HP12.out.bel);(case aF=>exact (fun _ _=>trivial));(case aO=>exact Kd.R_mono HP12.out.out (fun _ _=>trivial));(case aS=>exact HP12.out.bel.size);(case aL=>omega);intro v13 w13 ho13 hb13 hg13 hat13)
     have HP13:Aside0 (LoopP k g f0 f1 qk qg qf b gs w (fun _=>True) R B p v13 (acc++[z]) w13):=⟨⟨⟨blk_grown HP12.out.env.known hg13 (Kd.R_ne HP12.out.out HP12.out.env.known (by decide)),blk_grown HP12.out.env.game hg13 HP12.out.og,blk_grown HP12.out.env.find hg13 (Kd.R_ne HP12.out.out HP12.out.env.find (by decide)),HP12.out.env.memo.kept hg13 (fun e=>by
      obtain ⟨cells,hc⟩:=Kd.R_typed HP12.out.out b e.symm
      exact HP12.out.env.memo.ne hc rfl)⟩,HP12.out.bb,HP12.out.gq,hb13,blk_grown HP12.out.st hg13 (Kd.R_ne HP12.out.out HP12.out.st (by decide)),ho13,by
      have hlt:=lt_of_block HP12.out.env.game
      have hog:=HP12.out.og
      rcases hat13 with e|⟨i,e,hi⟩
      ·rw [e];exact hog
      ·rw [e]
       intro e2
       have:=Option.some.inj e2
       omega⟩⟩
     have hx13:w13.cell? ad=some (.int .i64 z):=hg13.cell hx0 (fun e=>by have h_:=HO12.out.1 ad.block rfl;have h2_:=HP12.out.out.1 ad.block e.symm;simp only at h_ h2_;omega)
     clear ho13 hb13 hg13 hat13 HP12 HO12 hx0 hinfo2
     have HPe:=LoopP.below HP13 (below_drew (Below.refl _ _))
     have hxe:w13.drew.cell? ad=some (.int .i64 z):=hx13
     refine start_ (n:=13) (S:=(fun w'=>w'.cell? ⟨gs,0,none⟩=some (.int .i64 f0)∧w'.cell? ⟨gs,1,none⟩=some (.int .i64 f1)∧w'.cell? ⟨gs,2,none⟩=some (.int .i64 R)∧w'.cell? ⟨gs,3,none⟩=some (.int .i64 B)∧w'.cell? ⟨gs,4,none⟩=some (.int .i64 p)∧w'.cell? ad=some (.int .i64 z))) (ds:=[12]) #[false,false,false,false,false,false,false,false,false,false,false,false,false] (by kernel_rfl) rfl rfl ⟨HPe.out.cells.1,HPe.out.cells.2.1,HPe.out.cells.2.2.1,HPe.out.cells.2.2.2.1,HPe.out.cells.2.2.2.2,hxe⟩ (fun hHeld=>?_);refine with_tabW playR10_tab playR10_bits (fun HT_ HW_=>?_)
     generalize w13.drew=we at HPe hxe hHeld ⊢
     refine pure_ (i:=0) (N:=some 47) (v:=?_) (a':=?_) #[true,false,false,false,false,false,false,false,false,false,false,false,false] rfl rfl (any_of HT_.out (by kernel_rfl)) (fun _ _ _ h=>h) (Or.inl ⟨by rfl,?_⟩) ?_ ?_
     rotate_left
     ·intro w'
      go_simp
      with_reducible rfl
     rotate_left
     ·simp only [Act.put,List.setIfInBounds_toArray,List.set_cons_zero,List.set_cons_succ,i64_w,i32_w]
      rfl
     refine pure_ (i:=2) (N:=some 49) (v:=?_) (a':=?_) #[true,false,true,false,false,false,false,false,false,false,false,false,false] rfl rfl (any_of HT_.out (by kernel_rfl)) (fun _ _ _ h=>h) (Or.inl ⟨by rfl,?_⟩) ?_ ?_
     rotate_left
     ·intro w'
      go_simp
      with_reducible rfl
     rotate_left
     ·simp only [Act.put,List.setIfInBounds_toArray,List.set_cons_zero,List.set_cons_succ,i64_w,i32_w]
      rfl
     refine pure_ (i:=4) (N:=some 51) (v:=?_) (a':=?_) #[true,false,true,false,true,false,false,false,false,false,false,false,false] rfl rfl (any_of HT_.out (by kernel_rfl)) (fun _ _ _ h=>h) (Or.inl ⟨by rfl,?_⟩) ?_ ?_
     rotate_left
     ·intro w'
      go_simp
      with_reducible rfl
     rotate_left
     ·simp only [Act.put,List.setIfInBounds_toArray,List.set_cons_zero,List.set_cons_succ,i64_w,i32_w]
      rfl
     refine pure_ (i:=5) (N:=some 52) (v:=?_) (a':=?_) #[true,false,true,false,true,true,false,false,false,false,false,false,false] rfl rfl (any_of HT_.out (by kernel_rfl)) (fun _ _ _ h=>h) (Or.inl ⟨by rfl,?_⟩) ?_ ?_
     rotate_left
     ·intro w'
      go_simp
      with_reducible rfl
     rotate_left
     ·simp only [Act.put,List.setIfInBounds_toArray,List.set_cons_zero,List.set_cons_succ,i64_w,i32_w]
      rfl
     refine pure_ (i:=8) (N:=some 55) (v:=?_) (a':=?_) #[true,false,true,false,true,true,false,false,true,false,false,false,false] rfl rfl (any_of HT_.out (by kernel_rfl)) (fun _ _ _ h=>h) (Or.inl ⟨by rfl,?_⟩) ?_ ?_
     rotate_left
     ·intro w'
      go_simp
      with_reducible rfl
     rotate_left
     ·simp only [Act.put,List.setIfInBounds_toArray,List.set_cons_zero,List.set_cons_succ,i64_w,i32_w]
      rfl
     refine take_ (i:=1) (N:=some 48) (v:=?_) (a':=?_) #[true,true,true,false,true,true,false,false,true,false,false,false,false] rfl rfl (take_ofW HT_.out HW_.out (by kernel_rfl)) (fun _ _ _ h=>h) (Or.inl ⟨by rfl,?_⟩) hHeld ?_ ?_
     rotate_left
     ·rintro w' ⟨s0,s1,s2,s3,s4,s5⟩
      go_simp
      with_reducible rfl
     rotate_left
     ·simp only [Act.put,List.setIfInBounds_toArray,List.set_cons_zero,List.set_cons_succ,i64_w,i32_w]
      rfl
     refine take_ (i:=3) (N:=some 50) (v:=?_) (a':=?_) #[true,true,true,true,true,true,false,false,true,false,false,false,false] rfl rfl (take_ofW HT_.out HW_.out (by kernel_rfl)) (fun _ _ _ h=>h) (Or.inl ⟨by rfl,?_⟩) hHeld ?_ ?_
     rotate_left
     ·rintro w' ⟨s0,s1,s2,s3,s4,s5⟩
      go_simp
      with_reducible rfl
     rotate_left
     ·simp only [Act.put,List.setIfInBounds_toArray,List.set_cons_zero,List.set_cons_succ,i64_w,i32_w]
      rfl
     refine take_ (i:=6) (N:=some 53) (v:=?_) (a':=?_) #[true,true,true,true,true,true,true,false,true,false,false,false,false] rfl rfl (take_ofW HT_.out HW_.out (by kernel_rfl)) (fun _ _ _ h=>h) (Or.inl ⟨by rfl,?_⟩) hHeld ?_ ?_
     rotate_left
     ·rintro w' ⟨s0,s1,s2,s3,s4,s5⟩
      go_simp
      with_reducible rfl
     rotate_left
     ·simp only [Act.put,List.setIfInBounds_toArray,List.set_cons_zero,List.set_cons_succ,i64_w,i32_w]
      rfl
     refine take_ (i:=9) (N:=some 56) (v:=?_) (a':=?_) #[true,true,true,true,true,true,true,false,true,true,false,false,false] rfl rfl (take_ofW HT_.out HW_.out (by kernel_rfl)) (fun _ _ _ h=>h) (Or.inl ⟨by rfl,?_⟩) hHeld ?_ ?_
     rotate_left
     ·rintro w' ⟨s0,s1,s2,s3,s4,s5⟩
      go_simp
      with_reducible rfl
     rotate_left
     ·simp only [Act.put,List.setIfInBounds_toArray,List.set_cons_zero,List.set_cons_succ,i64_w,i32_w]
      rfl
     refine pure_ (i:=10) (N:=some 57) (v:=?_) (a':=?_) #[true,true,true,true,true,true,true,false,true,true,true,false,false] rfl rfl (any_of HT_.out (by kernel_rfl)) (fun _ _ _ h=>h) (Or.inl ⟨by rfl,?_⟩) ?_ ?_
     rotate_left
     ·intro w'
      go_simp
      with_reducible rfl
     rotate_left
     ·simp only [Act.put,List.setIfInBounds_toArray,List.set_cons_zero,List.set_cons_succ,i64_w,i32_w]
      rfl
     refine one_ (i:=7) (N:=some 54) #[true,true,true,true,true,true,true,true,true,true,true,false,false] rfl rfl (one_of HT_.out (by kernel_rfl)) (by decide) (fun K hK=>?_)
     refine goes_ Tryz.func31 (by kernel_rfl) rfl #[.agg #[.int .i64 f0,.int .i64 f1,.int .i64 R,.int .i64 B],.int .i64 p,.int .i64 z] (by rfl) rfl rfl (by (try simp only [List.map_toArray,List.map_cons,List.map_nil]);first|done|rfl) ?_
     refine (impl_Field_coloured.calls f0 f1 R B p z f0 f1 R1 B1 _ HM.out).mono ?_
     rintro e w14 ⟨rfl,hb14⟩
     refine ⟨_,rfl,?_⟩
     have HP14:=LoopP.below HPe hb14
     have hx14:w14.cell? ad=some (.int .i64 z):=pw_cell_below hb14 hxe
     clear hb14 hxe HPe
     refine hK.out _ _ ⟨HP14.out.cells.1,HP14.out.cells.2.1,HP14.out.cells.2.2.1,HP14.out.cells.2.2.2.1,HP14.out.cells.2.2.2.2,hx14⟩ (fun hHeld=>?_)
     clear hK K
     refine norm_ (a':=?_) ?_ ?_
     rotate_left
     ·show Act.put _ (some 54) _=_
      simp only [Act.put,List.setIfInBounds_toArray,List.set_cons_zero,List.set_cons_succ,i64_w,i32_w]
      rfl
     refine pure_ (i:=11) (N:=some 58) (v:=?_) (a':=?_) #[true,true,true,true,true,true,true,true,true,true,true,true,false] rfl rfl (any_of HT_.out (by kernel_rfl)) (fun _ _ _ h=>h) (Or.inl ⟨by rfl,?_⟩) ?_ ?_
     rotate_left
     ·intro w'
      go_simp
      with_reducible rfl
     rotate_left
     ·simp only [Act.put,List.setIfInBounds_toArray,List.set_cons_zero,List.set_cons_succ,i64_w,i32_w]
      rfl
     refine last_ (i:=12) (N:=none) #[true,true,true,true,true,true,true,true,true,true,true,true,true] rfl rfl (one_of HT_.out (by kernel_rfl)) (by decide) (fun K hK=>?_)
     obtain ⟨hk0,hk1,hk2,hk3,hk4⟩:=HP14.out.cells
     have hf0:=blk_frozen HP14.out.st 0
     have hf1:=blk_frozen HP14.out.st 1
     have hf2:=blk_frozen HP14.out.st 2
     have hf3:=blk_frozen HP14.out.st 3
     have hf4:=blk_frozen HP14.out.st 4
     refine skip_ (w1:=?_) (by rfl) rfl ?_ ?_
     rotate_left
     ·go_simp
      rfl
     refine hK.out _ _ ?_
     clear hK K
     refine done_ (done_of HT_.out (by kernel_rfl)) ?_
     have HP15:=LoopP.put HP14 R1 B1 (wrap64 (1-p))
     generalize ((((w14.setCell ⟨gs,0,none⟩ (.int .i64 f0)).setCell ⟨gs,1,none⟩ (.int .i64 f1)).setCell ⟨gs,2,none⟩ (.int .i64 R1)).setCell ⟨gs,3,none⟩ (.int .i64 B1)).setCell ⟨gs,4,none⟩ (.int .i64 (wrap64 (1-p)))=w15 at HP15 ⊢
     obtain ⟨hm0,hm1,hm2,hm3,hm4⟩:=HP15.out.cells
     clear hk0 hk1 hk2 hk3 hk4 hf0 hf1 hf2 hf3 hf4 HP14 hx14
     go_wp2
     go_roundg m
     case measure=>omega
     case rel=>exact ⟨v13,w15.heap.size,R1,B1,wrap64 (1-p),acc++[z],rfl,rfl,LoopP.fresh HP15 (below_alloc (Below.refl _ _) _) (by simpa using heap_alloc_new w15 (.cells #[.int .i64 f0,.int .i64 f1,.int .i64 R1,.int .i64 B1,.int .i64 (wrap64 (1-p))] 58)) HP15.out.bel.size,HA2⟩
 ·rw [if_neg e] at h
  simp only [Option.some.injEq,Prod.mk.injEq] at h
  obtain ⟨rfl,rfl⟩:=h
  have hne:(c !=0)=true:=by simpa using e
  go_enter Tryz.func6,Tryz.ntmps6
  go_wp2_with (go_at_call 27;refine (impl_fieldCode.calls k f0 f1 f2 f3 g p0 c _ HC.out).mono ?_;rintro e w2 ⟨rfl,hb2⟩)
  go_ret2
  exact ⟨_,rfl,Kd.R_nil _ _ _ _ _,(held_below HK hb2).2⟩
end Go.Proofs.YtlmohkbimnhecaaGreat.Q
