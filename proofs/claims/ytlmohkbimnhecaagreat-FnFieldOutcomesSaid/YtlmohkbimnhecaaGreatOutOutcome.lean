/-
  OutcomeOf: the code, or who wins for each player who begins; told as the printed functions are.
-/
import Derived.Test.YtlmohkbimnhecaaGreatOutWins
import Derived.Test.YtlmohkbimnhecaaGreatQ4
namespace Go.Proofs.YtlmohkbimnhecaaGreat.Q
open Go.RowKit Go.Proofs.YtlmohkbimnhecaaGreatW.PrintWords Go.Proofs.YtlmohkbimnhecaaGreatW.PrintLast Go.Proofs.YtlmohkbimnhecaaGreatW.PrintMore
open Go.Maps (Keyed)
def impl_OutcomeOf.f (k:Nat) (f0 f1 f2 f3 g:Int):Option (Bool×Bool×Int):=
 (impl_fieldCode.f k f0 f1 f2 f3 g 0).bind fun c=>if c=0 then (winsF k g f0 f1 12 f2 f3 0).bind fun x=>(winsF k g f0 f1 12 f2 f3 1).bind fun y=>some (x,y,0) else some (false,false,c)
theorem impl_OutcomeOf.mono:∀ a0 a1 a2 a3 a4 k,LeO (impl_OutcomeOf.f k a0 a1 a2 a3 a4) (impl_OutcomeOf.f (k+1) a0 a1 a2 a3 a4):=by
 intro a0 a1 a2 a3 a4 k
 unfold impl_OutcomeOf.f
 exact LeO.bind (impl_fieldCode.mono _ _ _ _ _ _ k) (fun c=>LeO.ite (LeO.bind (winsF_mono _ _ _ _ k _ _ _) (fun x=>LeO.bind (winsF_mono _ _ _ _ k _ _ _) (fun y=>LeO.refl _))) (LeO.refl _))
def HaveF (k:Nat) (g:Int) (gk gg gf b gs base:Nat) (w0:World) (f0 f1 f2 f3:Int) (w:World):Prop:=
 EnvW k g f0 f1 gk gg gf b w∧w.heap[gs]?=some (.cells #[.int .i64 f0,.int .i64 f1,.int .i64 f2,.int .i64 f3] 25 (0,0))∧Below base w0 w∧base≤b∧base≤w.heap.size
section
variable {k:Nat} {g:Int} {gk gg gf b gs base:Nat} {w0:World} {f0 f1 f2 f3:Int} {w w':World}
theorem HaveF.grown (h:HaveF k g gk gg gf b gs base w0 f0 f1 f2 f3 w) (he:EnvW k g f0 f1 gk gg gf b w') (hg:w.grownBy w' (some b)):HaveF k g gk gg gf b gs base w0 f0 f1 f2 f3 w':=
 ⟨he,(hg.block gs (lt_of_block h.2.1) (h.1.memo.ne h.2.1)).trans h.2.1,h.2.2.1.grown hg h.2.2.2.2 (fun k e=>by have:=Option.some.inj e;have:=h.2.2.2.1;omega),h.2.2.2.1,Nat.le_trans h.2.2.2.2 hg.size⟩
theorem HaveF.drew (h:HaveF k g gk gg gf b gs base w0 f0 f1 f2 f3 w):HaveF k g gk gg gf b gs base w0 f0 f1 f2 f3 w.drew:=h.grown (h.1.below (below_drew (Below.refl _ _))) (grown_drew (grown_refl _ _))
theorem HaveF.cells (h:HaveF k g gk gg gf b gs base w0 f0 f1 f2 f3 w):w.cell? ⟨gs,0,none⟩=some (.int .i64 f0)∧w.cell? ⟨gs,1,none⟩=some (.int .i64 f1)∧w.cell? ⟨gs,2,none⟩=some (.int .i64 f2)∧w.cell? ⟨gs,3,none⟩=some (.int .i64 f3) ∧
 Aside0 (HaveF k g gk gg gf b gs base w0 f0 f1 f2 f3 w):=⟨blk_cell h.2.1 0,blk_cell h.2.1 1,blk_cell h.2.1 2,blk_cell h.2.1 3,⟨h⟩⟩
theorem have_env (h:Aside0 (HaveF k g gk gg gf b gs base w0 f0 f1 f2 f3 w)):EnvW k g f0 f1 gk gg gf b w:=h.out.1
theorem have_find (h:Aside0 (HaveF k g gk gg gf b gs base w0 f0 f1 f2 f3 w)) (he:EnvW k g f0 f1 gk gg gf b w') (hg:w.grownBy w' (some b)):HaveF k g gk gg gf b gs base w0 f0 f1 f2 f3 w':=h.out.grown he hg
end
structure Won (k:Nat) (g f0 f1 f2 f3 p:Int) (r:Bool):Prop where mk::(out:winsF k g f0 f1 12 f2 f3 p=some r)
theorem find_won {k:Nat} {g:Int} {gk gg gf b gs base:Nat} {w0:World} {f0 f1 f2 f3:Int} {w:World} {R B p:Int} {r:Bool} (hh:Aside0 (HaveF k g gk gg gf b gs base w0 f0 f1 f2 f3 w)) (hw:Won k g f0 f1 R B p r):
 Calls Tryz.prog 66 #[.agg #[.int .i64 f0,.int .i64 f1,.int .i64 R,.int .i64 B,.int .i64 p],.pointer (some ⟨gk,0,none⟩),.pointer (some ⟨gg,0,none⟩),.pointer (some ⟨gf,0,none⟩)] w fun e w'=>e=.returned (.bool r)∧HaveF k g gk gg gf b gs base w0 f0 f1 f2 f3 w':=
 (find_at k g f0 f1 12 R B p r w gk gg gf b (have_env hh) hw.out).mono (fun _ _ ⟨h1,h2,h3⟩=>⟨h1,have_find hh h2 h3⟩)
set_option linter.unusedSimpArgs false
set_option maxRecDepth 100000
set_option maxHeartbeats 4000000 in
theorem impl_OutcomeOf.calls (k:Nat) (f0 f1 f2 f3 g:Int) (r1 r2:Bool) (r3:Int) (w:World) (h:impl_OutcomeOf.f k f0 f1 f2 f3 g=some (r1,r2,r3)):
 Calls Tryz.prog 11 #[.agg #[.int .i64 f0,.int .i64 f1,.int .i64 f2,.int .i64 f3],.int .i64 g] w fun e w'=>e=.returned (.tuple #[.bool r1,.bool r2,.int .i64 r3])∧Below w.heap.size w w':=by
 unfold impl_OutcomeOf.f at h
 obtain ⟨c,hc,h⟩:=Option.bind_eq_some_iff.1 h
 generalize hw1:w.alloc (.cells #[.int .i64 f0,.int .i64 f1,.int .i64 f2,.int .i64 f3] 25)=w1
 have HB1:Aside0 (Below w.heap.size w w1):=⟨by rw [← hw1];exact (Below.refl _ _).alloc (Nat.le_refl _) _⟩
 have hblk:w1.heap[w.heap.size]?=some (.cells #[.int .i64 f0,.int .i64 f1,.int .i64 f2,.int .i64 f3] 25 (0,0)):=by rw [← hw1];simpa using heap_alloc_new w (.cells #[.int .i64 f0,.int .i64 f1,.int .i64 f2,.int .i64 f3] 25)
 have HK:=Aside0.mk hblk
 have hc0:w1.cell? ⟨w.heap.size,0,none⟩=some (.int .i64 f0):=blk_cell hblk 0
 have hc1:w1.cell? ⟨w.heap.size,1,none⟩=some (.int .i64 f1):=blk_cell hblk 1
 have hc2:w1.cell? ⟨w.heap.size,2,none⟩=some (.int .i64 f2):=blk_cell hblk 2
 have hc3:w1.cell? ⟨w.heap.size,3,none⟩=some (.int .i64 f3):=blk_cell hblk 3
 have hu:=Tryz.underlying25
 have hu2:=Tryz.underlying58
 have HC:=Aside0.mk hc
 clear hc hblk
 by_cases e:c=0
 ·rw [if_pos e] at h
  subst e
  obtain ⟨x,hx,h⟩:=Option.bind_eq_some_iff.1 h
  obtain ⟨y,hy,h⟩:=Option.bind_eq_some_iff.1 h
  simp only [Option.some.injEq,Prod.mk.injEq] at h
  obtain ⟨rfl,rfl,rfl⟩:=h
  have HX:=Won.mk hx
  have HY:=Won.mk hy
  clear hx hy
  go_enter Tryz.func11,Tryz.ntmps11
  go_wp2_with (first
   |(go_at_call 27;refine (impl_fieldCode.calls k f0 f1 f2 f3 g 0 0 _ HC.out).mono ?_;rintro e w2 ⟨rfl,hb2⟩)
   |(go_at_call 28;refine (fieldWins_calls k g f0 f1 _).mono ?_;rintro e w3 ⟨gk,gg,gf,b,rfl,he3,hb3,hlt⟩))
  have HH:Aside0 (HaveF k g gk gg gf b w.heap.size w.heap.size w f0 f1 f2 f3 w3):=⟨he3,((below_then hb2 hb2.size hb3).block _ (lt_of_block HK.out)).trans HK.out,below_then HB1.out HB1.out.size (below_then hb2 hb2.size hb3),by have:=HB1.out.size;have:=hb2.size;omega,by have:=HB1.out.size;have:=hb2.size;have:=hb3.size;omega⟩
  clear hc0 hc1 hc2 hc3 hb2 he3 hb3 hlt hw1
  obtain ⟨hc0,hc1,hc2,hc3,HH⟩:=HH.out.cells
  go_region_held3 (fun w'=>w'.cell? ⟨w.heap.size,0,none⟩=some (.int .i64 f0)∧w'.cell? ⟨w.heap.size,1,none⟩=some (.int .i64 f1)∧w'.cell? ⟨w.heap.size,2,none⟩=some (.int .i64 f2)∧w'.cell? ⟨w.heap.size,3,none⟩=some (.int .i64 f3)∧Aside0 (HaveF k g gk gg gf b w.heap.size w.heap.size w f0 f1 f2 f3 w'))
   (first
    |exact HH.out.drew.cells
    |exact hh'.cells)
   (first|(go_at_call 66;go_split_ands;refine (find_won (by assumption) (by assumption)).mono ?_;rintro e w' ⟨rfl,hh'⟩))
  go_wp2
  go_ret3
  rename_i hH
  exact ⟨rfl,hH.2.2.2.2.out.2.2.1⟩
 ·rw [if_neg e] at h
  simp only [Option.some.injEq,Prod.mk.injEq] at h
  obtain ⟨rfl,rfl,rfl⟩:=h
  have hne:(c !=0)=true:=by simpa using e
  go_enter Tryz.func11,Tryz.ntmps11
  go_wp2_with (go_at_call 27;refine (impl_fieldCode.calls k f0 f1 f2 f3 g 0 c _ HC.out).mono ?_;rintro e w2 ⟨rfl,hb2⟩)
  go_ret3
  exact ⟨rfl,below_then HB1.out HB1.out.size hb2⟩
end Go.Proofs.YtlmohkbimnhecaaGreat.Q
