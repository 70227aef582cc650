/-
  (impl.Field).points comes to the plain choice of the points that a player may colour; told as the printed functions are. At most 1,000,000 points.
-/
import Derived.Test.YtlmohkbimnhecaaGreatQ3
import Derived.Test.YtlmohkbimnhecaaGreatQ4
import Derived.Test.YtlmohkbimnhecaaGreatChosen
namespace Go.Proofs.YtlmohkbimnhecaaGreat.Q
open Go.RowKit Go.Proofs.YtlmohkbimnhecaaGreatW.PrintWords Go.Proofs.YtlmohkbimnhecaaGreatW.PrintLast Go.Proofs.YtlmohkbimnhecaaGreatW.PrintMore
def pointsP (k:Nat) (f0 f1 f2 f3 g p i:Int):Option Bool:=
 (impl_Field_colour.f f0 f1 f2 f3 i).bind fun c=>if c=0 then (impl_Field_coloured.f f0 f1 f2 f3 p i).bind fun m=>impl_Field_isFair.f k m.1 m.2.1 m.2.2.1 m.2.2.2 g else some false
def impl_Field_points.f (k:Nat) (f0 f1 f2 f3 g p:Int):Option (List Int):=if f0≤1000000 then chooseP (pointsP k f0 f1 f2 f3 g p) f0.toNat 0 else none
theorem chooseP_mono {p q:Int→Option Bool} (h:∀ i,LeO (p i) (q i)) (d:Nat):∀ i,LeO (chooseP p d i) (chooseP q d i):=by
 induction d with
 |zero=>intro i;exact LeO.refl _
 |succ d ih=>intro i;exact LeO.bind (h i) (fun b=>LeO.bind (ih _) (fun l=>LeO.refl _))
theorem impl_Field_points.mono:∀ a0 a1 a2 a3 a4 a5 k,LeO (impl_Field_points.f k a0 a1 a2 a3 a4 a5) (impl_Field_points.f (k+1) a0 a1 a2 a3 a4 a5):=by
 intro a0 a1 a2 a3 a4 a5 k
 unfold impl_Field_points.f
 refine LeO.ite (chooseP_mono (fun i=>?_) _ _) (LeO.refl _)
 unfold pointsP
 exact LeO.bind (LeO.refl _) (fun c=>LeO.ite (LeO.bind (LeO.refl _) (fun m=>impl_Field_isFair.mono _ _ _ _ _ _)) (LeO.refl _))
theorem and_one (x:Int):Go.bits .and .i64 x 1=0∨Go.bits .and .i64 x 1=1:=by
 have h:(BitVec.ofInt 64 x&&&BitVec.ofInt 64 1).toNat≤1:=by rw [BitVec.toNat_and];exact Nat.le_trans Nat.and_le_right (by decide)
 show IntKind.i64.wrap ((BitVec.ofInt 64 x&&&BitVec.ofInt 64 1).toNat:Int)=0∨IntKind.i64.wrap ((BitVec.ofInt 64 x&&&BitVec.ofInt 64 1).toNat:Int)=1
 generalize (BitVec.ofInt 64 x&&&BitVec.ofInt 64 1).toNat=n at h
 rw [IntKind.wrap_i64]
 omega
theorem colour_cases {f0 f1 f2 f3 x c:Int} (h:impl_Field_colour.f f0 f1 f2 f3 x=some c):c=0∨c=1∨c=2∨c=3:=by
 unfold impl_Field_colour.f at h
 split at h
 ·obtain rfl:=Option.some.inj h
  rcases and_one (shr .i64 f2 x) with e|e<;>rcases and_one (shr .i64 f3 x) with g|g<;>rw [e,g] <;> decide +kernel
 ·cases h
theorem below_more {a b c:World} (h:Aside0 (Below a.heap.size a b)) (k:Below b.heap.size b c):Aside0 (Below a.heap.size a c):=⟨below_then h.out h.out.size k⟩
set_option linter.unusedSimpArgs false
set_option maxRecDepth 100000
set_option maxHeartbeats 4000000 in
theorem points1_calls (k:Nat) (gf gp gg:Nat) (f0 f1 f2 f3 g p x:Int) (r:Bool) (W:World) (hf:W.heap[gf]?=some (.cells #[.int .i64 f0,.int .i64 f1,.int .i64 f2,.int .i64 f3] 25 (0,0)))
 (hp:W.heap[gp]?=some (.cells #[.int .i64 p] 2 (0,0))) (hg:W.heap[gg]?=some (.cells #[.int .i64 g] 2 (0,0))) (h:pointsP k f0 f1 f2 f3 g p x=some r):
 Calls Tryz.prog 72 (#[.int .i64 x]++#[.pointer (some ⟨gf,0,none⟩),.pointer (some ⟨gp,0,none⟩),.pointer (some ⟨gg,0,none⟩)]) W fun e w'=>e=.returned (.bool r)∧Below W.heap.size W w':=by
 rw [show (#[Value.int .i64 x]++#[Value.pointer (some ⟨gf,0,none⟩),.pointer (some ⟨gp,0,none⟩),.pointer (some ⟨gg,0,none⟩)]:Array Value)=#[.int .i64 x,.pointer (some ⟨gf,0,none⟩),.pointer (some ⟨gp,0,none⟩),.pointer (some ⟨gg,0,none⟩)] from rfl]
 obtain ⟨c,hq,h⟩:=Option.bind_eq_some_iff.1 h
 have HQ:=Aside0.mk hq
 have hc0:W.cell? ⟨gf,0,none⟩=some (.int .i64 f0):=blk_cell hf 0
 have hc1:W.cell? ⟨gf,1,none⟩=some (.int .i64 f1):=blk_cell hf 1
 have hc2:W.cell? ⟨gf,2,none⟩=some (.int .i64 f2):=blk_cell hf 2
 have hc3:W.cell? ⟨gf,3,none⟩=some (.int .i64 f3):=blk_cell hf 3
 have hc4:W.cell? ⟨gp,0,none⟩=some (.int .i64 p):=blk_cell hp 0
 have hc5:W.cell? ⟨gg,0,none⟩=some (.int .i64 g):=blk_cell hg 0
 have hu:=Tryz.underlying25
 have HB:=Aside0.mk (Below.refl W.heap.size W)
 clear hq hg hf hp
 by_cases e0:c=0
 ·rw [if_pos e0] at h
  subst e0
  obtain ⟨⟨m0,m1,m2,m3⟩,hm,h⟩:=Option.bind_eq_some_iff.1 h
  have HM:=Aside0.mk hm
  have HF:Aside0 (impl_Field_isFair.f k m0 m1 m2 m3 g=some r):=⟨h⟩
  clear h hm
  go_enter Tryz.func72,Tryz.ntmps72
  go_wp2_with fail
  go_region_held3 (fun w'=>w'.cell? ⟨gf,0,none⟩=some (.int .i64 f0)∧w'.cell? ⟨gf,1,none⟩=some (.int .i64 f1)∧w'.cell? ⟨gf,2,none⟩=some (.int .i64 f2)∧w'.cell? ⟨gf,3,none⟩=some (.int .i64 f3)∧w'.cell? ⟨gp,0,none⟩=some (.int .i64 p)∧w'.cell? ⟨gg,0,none⟩=some (.int .i64 g)∧Aside0 (Below W.heap.size W w'))
   (first
    |exact ⟨hc0,hc1,hc2,hc3,hc4,hc5,⟨below_drew HB.out⟩⟩
    |go_keep
    |(go_split_ands;exact ⟨pw_cell_below hb' (by assumption),pw_cell_below hb' (by assumption),pw_cell_below hb' (by assumption),pw_cell_below hb' (by assumption),pw_cell_below hb' (by assumption),pw_cell_below hb' (by assumption),below_more (by assumption) hb'⟩))
   (first|(go_at_call 73;refine (impl_Field_colour.calls f0 f1 f2 f3 x 0 _ HQ.out).mono ?_;rintro e w' ⟨rfl,hb'⟩)|(go_at_call 31;refine (impl_Field_coloured.calls f0 f1 f2 f3 p x m0 m1 m2 m3 _ HM.out).mono ?_;rintro e w' ⟨rfl,hb'⟩)|(go_at_call 65;refine (impl_Field_isFair.calls k m0 m1 m2 m3 g r _ HF.out).mono ?_;rintro e w' ⟨rfl,hb'⟩))
  go_wp2
  go_ret
  rename_i hH
  exact ⟨rfl,hH.2.2.2.2.2.2.out⟩
 ·rw [if_neg e0] at h
  obtain rfl:false=r:=by simpa using h
  clear h
  rcases colour_cases HQ.out with e1|e1|e1|e1
  ·exact absurd e1 e0
  all_goals
   subst e1
   clear e0
   go_enter Tryz.func72,Tryz.ntmps72
   go_wp2_with fail
   refine wp_region_held_drew (S:=fun w'=>w'.cell? ⟨gf,0,none⟩=some (.int .i64 f0)∧w'.cell? ⟨gf,1,none⟩=some (.int .i64 f1)∧w'.cell? ⟨gf,2,none⟩=some (.int .i64 f2)∧w'.cell? ⟨gf,3,none⟩=some (.int .i64 f3)∧Aside0 (Below W.heap.size W w')) (by kernel_rfl) ⟨hc0,hc1,hc2,hc3,⟨below_drew HB.out⟩⟩ (fun hHeld=>?_)
   refine wpAnyH_take (i:=0) (v:=?_) rfl (by kernel_rfl) (by kernel_rfl) (by kernel_rfl) (fun _ _ _ h=>h) (Or.inl ⟨by rfl,?_⟩) (by assumption) ?_
   rotate_left
   ·intro w hSw
    (try dsimp only at hSw)
    go_simp
    (try with_reducible rfl)
   simp only [Act.put,List.setIfInBounds_toArray,List.set_cons_zero,List.set_cons_succ]
   refine wpAnyH_take (i:=1) (v:=?_) rfl (by kernel_rfl) (by kernel_rfl) (by kernel_rfl) (fun _ _ _ h=>h) (Or.inl ⟨by rfl,?_⟩) (by assumption) ?_
   rotate_left
   ·intro w hSw
    (try dsimp only at hSw)
    go_simp
    (try with_reducible rfl)
   simp only [Act.put,List.setIfInBounds_toArray,List.set_cons_zero,List.set_cons_succ]
   refine wpAnyH_ready (rs:=[2]) (by kernel_rfl) (by simp) ?_
   refine AllReadyH.cons rfl (fun K hK=>?_) AllReadyH.nil
   go_simp
   go_at_call 73
   refine (impl_Field_colour.calls f0 f1 f2 f3 x _ _ HQ.out).mono ?_
   rintro e w' ⟨rfl,hb'⟩
   (try go_wp2_with fail)
   refine hK.out _ _ ⟨pw_cell_below hb' hHeld.1,pw_cell_below hb' hHeld.2.1,pw_cell_below hb' hHeld.2.2.1,pw_cell_below hb' hHeld.2.2.2.1,below_more hHeld.2.2.2.2 hb'⟩ (fun hHeld=>?_)
   clear hK K
   change wpAnyH _ _ _ _ _ _ _ (⟨#[.int .i64 x,.pointer (some ⟨gf,0,none⟩),.pointer (some ⟨gp,0,none⟩),.pointer (some ⟨gg,0,none⟩),undef,.bool false,.agg #[.int .i64 f0,.int .i64 f1,.int .i64 f2,.int .i64 f3],.int .i64 x,.int .i64 _,undef,undef,undef,undef,undef,undef,undef,undef,undef],[]⟩:Act) _
   refine wpAnyH_take (i:=3) (v:=?_) rfl (by kernel_rfl) (by kernel_rfl) (by kernel_rfl) (fun _ _ _ h=>h) (Or.inl ⟨by rfl,?_⟩) (by assumption) ?_
   rotate_left
   ·intro w hSw
    (try dsimp only at hSw)
    go_simp
    (try with_reducible rfl)
   change wpAnyH _ _ _ _ _ _ _ (⟨#[.int .i64 x,.pointer (some ⟨gf,0,none⟩),.pointer (some ⟨gp,0,none⟩),.pointer (some ⟨gg,0,none⟩),undef,.bool false,.agg #[.int .i64 f0,.int .i64 f1,.int .i64 f2,.int .i64 f3],.int .i64 x,.int .i64 _,.bool false,undef,undef,undef,undef,undef,undef,undef,undef],[]⟩:Act) _
   refine wpAnyH_take (i:=4) (v:=?_) rfl (by kernel_rfl) (by kernel_rfl) (by kernel_rfl) (fun _ _ _ h=>h) (Or.inl ⟨by rfl,?_⟩) (by assumption) ?_
   rotate_left
   ·intro w hSw
    (try dsimp only at hSw)
    go_simp
    (try with_reducible rfl)
   change wpAnyH _ _ _ _ _ _ _ (⟨#[.int .i64 x,.pointer (some ⟨gf,0,none⟩),.pointer (some ⟨gp,0,none⟩),.pointer (some ⟨gg,0,none⟩),undef,.bool false,.agg #[.int .i64 f0,.int .i64 f1,.int .i64 f2,.int .i64 f3],.int .i64 x,.int .i64 _,.bool false,.bool false,undef,undef,undef,undef,undef,undef,undef],[]⟩:Act) _
   refine wpAnyH_take (i:=5) (v:=undef) rfl (by kernel_rfl) (by kernel_rfl) (by kernel_rfl) (fun _ _ _ h=>h) (Or.inr ⟨by rfl,rfl⟩) (by assumption) ?_
   change wpAnyH _ _ _ _ _ _ _ (⟨#[.int .i64 x,.pointer (some ⟨gf,0,none⟩),.pointer (some ⟨gp,0,none⟩),.pointer (some ⟨gg,0,none⟩),undef,.bool false,.agg #[.int .i64 f0,.int .i64 f1,.int .i64 f2,.int .i64 f3],.int .i64 x,.int .i64 _,.bool false,.bool false,undef,undef,undef,undef,undef,undef,undef],[]⟩:Act) _
   refine wpAnyH_take (i:=6) (v:=undef) rfl (by kernel_rfl) (by kernel_rfl) (by kernel_rfl) (fun _ _ _ h=>h) (Or.inr ⟨by rfl,rfl⟩) (by assumption) ?_
   change wpAnyH _ _ _ _ _ _ _ (⟨#[.int .i64 x,.pointer (some ⟨gf,0,none⟩),.pointer (some ⟨gp,0,none⟩),.pointer (some ⟨gg,0,none⟩),undef,.bool false,.agg #[.int .i64 f0,.int .i64 f1,.int .i64 f2,.int .i64 f3],.int .i64 x,.int .i64 _,.bool false,.bool false,undef,undef,undef,undef,undef,undef,undef],[]⟩:Act) _
   refine wpAnyH_take (i:=7) (v:=undef) rfl (by kernel_rfl) (by kernel_rfl) (by kernel_rfl) (fun _ _ _ h=>h) (Or.inr ⟨by rfl,rfl⟩) (by assumption) ?_
   change wpAnyH _ _ _ _ _ _ _ (⟨#[.int .i64 x,.pointer (some ⟨gf,0,none⟩),.pointer (some ⟨gp,0,none⟩),.pointer (some ⟨gg,0,none⟩),undef,.bool false,.agg #[.int .i64 f0,.int .i64 f1,.int .i64 f2,.int .i64 f3],.int .i64 x,.int .i64 _,.bool false,.bool false,undef,undef,undef,undef,undef,undef,undef],[]⟩:Act) _
   refine wpAnyH_take (i:=8) (v:=undef) rfl (by kernel_rfl) (by kernel_rfl) (by kernel_rfl) (fun _ _ _ h=>h) (Or.inr ⟨by rfl,rfl⟩) (by assumption) ?_
   change wpAnyH _ _ _ _ _ _ _ (⟨#[.int .i64 x,.pointer (some ⟨gf,0,none⟩),.pointer (some ⟨gp,0,none⟩),.pointer (some ⟨gg,0,none⟩),undef,.bool false,.agg #[.int .i64 f0,.int .i64 f1,.int .i64 f2,.int .i64 f3],.int .i64 x,.int .i64 _,.bool false,.bool false,undef,undef,undef,undef,undef,undef,undef],[]⟩:Act) _
   refine wpAnyH_take (i:=9) (v:=undef) rfl (by kernel_rfl) (by kernel_rfl) (by kernel_rfl) (fun _ _ _ h=>h) (Or.inr ⟨by rfl,rfl⟩) (by assumption) ?_
   change wpAnyH _ _ _ _ _ _ _ (⟨#[.int .i64 x,.pointer (some ⟨gf,0,none⟩),.pointer (some ⟨gp,0,none⟩),.pointer (some ⟨gg,0,none⟩),undef,.bool false,.agg #[.int .i64 f0,.int .i64 f1,.int .i64 f2,.int .i64 f3],.int .i64 x,.int .i64 _,.bool false,.bool false,undef,undef,undef,undef,undef,undef,undef],[]⟩:Act) _
   refine wpAnyH_take (i:=10) (v:=undef) rfl (by kernel_rfl) (by kernel_rfl) (by kernel_rfl) (fun _ _ _ h=>h) (Or.inr ⟨by rfl,rfl⟩) (by assumption) ?_
   change wpAnyH _ _ _ _ _ _ _ (⟨#[.int .i64 x,.pointer (some ⟨gf,0,none⟩),.pointer (some ⟨gp,0,none⟩),.pointer (some ⟨gg,0,none⟩),undef,.bool false,.agg #[.int .i64 f0,.int .i64 f1,.int .i64 f2,.int .i64 f3],.int .i64 x,.int .i64 _,.bool false,.bool false,undef,undef,undef,undef,undef,undef,undef],[]⟩:Act) _
   refine wpAnyH_take (i:=11) (v:=?_) rfl (by kernel_rfl) (by kernel_rfl) (by kernel_rfl) (fun _ _ _ h=>h) (Or.inl ⟨by rfl,?_⟩) (by assumption) ?_
   rotate_left
   ·intro w hSw
    (try dsimp only at hSw)
    go_simp
    (try with_reducible rfl)
   change wpAnyH _ _ _ _ _ _ _ (⟨#[.int .i64 x,.pointer (some ⟨gf,0,none⟩),.pointer (some ⟨gp,0,none⟩),.pointer (some ⟨gg,0,none⟩),undef,.bool false,.agg #[.int .i64 f0,.int .i64 f1,.int .i64 f2,.int .i64 f3],.int .i64 x,.int .i64 _,.bool false,.bool false,undef,undef,undef,undef,undef,undef,.bool false],[]⟩:Act) _
   refine wpAnyH_take (i:=12) (v:=?_) rfl (by kernel_rfl) (by kernel_rfl) (by kernel_rfl) (fun _ _ _ h=>h) (Or.inl ⟨by rfl,?_⟩) (by assumption) ?_
   rotate_left
   ·intro w hSw
    (try dsimp only at hSw)
    go_simp
    (try with_reducible rfl)
   change wpAnyH _ _ _ _ _ _ _ (⟨#[.int .i64 x,.pointer (some ⟨gf,0,none⟩),.pointer (some ⟨gp,0,none⟩),.pointer (some ⟨gg,0,none⟩),undef,.bool false,.agg #[.int .i64 f0,.int .i64 f1,.int .i64 f2,.int .i64 f3],.int .i64 x,.int .i64 _,.bool false,.bool false,undef,undef,undef,undef,undef,undef,.bool false],[]⟩:Act) _
   refine wpAnyH_done (by kernel_rfl) ?_ _
   go_wp2
   go_ret
   exact ⟨rfl,hHeld.2.2.2.2.out⟩
set_option maxHeartbeats 2000000 in
theorem impl_Field_points.calls (k:Nat) (f0 f1 f2 f3 g p:Int) (r:List Int) (w:World) (h:impl_Field_points.f k f0 f1 f2 f3 g p=some r):
 Calls Tryz.prog 30 #[.agg #[.int .i64 f0,.int .i64 f1,.int .i64 f2,.int .i64 f3],.int .i64 g,.int .i64 p] w fun e w'=>∃ v0_:Value,e=.returned (v0_)∧Kd.R (Kd.int .i64) 2 w' w.heap.size (fun _=>True) v0_ r∧Below w.heap.size w w':=by
 obtain ⟨hm,hr⟩:Aside0 (f0≤1000000)∧Aside0 (chooseP (pointsP k f0 f1 f2 f3 g p) f0.toNat 0=some r):=by
  unfold impl_Field_points.f at h
  split at h
  ·exact ⟨⟨by assumption⟩,⟨h⟩⟩
  ·cases h
 clear h
 generalize hw1:((w.alloc (.cells #[.int .i64 f0,.int .i64 f1,.int .i64 f2,.int .i64 f3] 25)).alloc (.cells #[.int .i64 g] 2)).alloc (.cells #[.int .i64 p] 2)=w1
 have HB1:Aside0 (Below w.heap.size w w1):=⟨by rw [← hw1];exact (((Below.refl _ _).alloc (Nat.le_refl _) _).alloc (by simp<;>omega) _).alloc (by simp<;>omega) _⟩
 have HF:Aside0 (w1.heap[w.heap.size]?=some (.cells #[.int .i64 f0,.int .i64 f1,.int .i64 f2,.int .i64 f3] 25 (0,0))):=⟨by
  rw [← hw1,(MapKept.heap_alloc _ _).2 _ (by simp<;>omega),(MapKept.heap_alloc _ _).2 _ (by simp<;>omega)]
  simpa using heap_alloc_new w _⟩
 have HG:Aside0 (w1.heap[w.heap.size+1]?=some (.cells #[.int .i64 g] 2 (0,0))):=⟨by
  rw [← hw1,(MapKept.heap_alloc _ _).2 _ (by simp)]
  simpa using heap_alloc_new (w.alloc (.cells #[.int .i64 f0,.int .i64 f1,.int .i64 f2,.int .i64 f3] 25)) (.cells #[.int .i64 g] 2)⟩
 have HP:Aside0 (w1.heap[w.heap.size+2]?=some (.cells #[.int .i64 p] 2 (0,0))):=⟨by
  rw [← hw1]
  simpa using heap_alloc_new ((w.alloc (.cells #[.int .i64 f0,.int .i64 f1,.int .i64 f2,.int .i64 f3] 25)).alloc (.cells #[.int .i64 g] 2)) (.cells #[.int .i64 p] 2)⟩
 have HL:Aside0 (w.heap.size+2<w1.heap.size):=⟨by rw [← hw1];simp⟩
 have hc0:w1.cell? ⟨w.heap.size,0,none⟩=some (.int .i64 f0):=blk_cell HF.out 0
 have hu:=Tryz.underlying25
 go_enter Tryz.func30,Tryz.ntmps30
 go_wp2_with fail
 clear hc0 hw1
 refine (chosen_calls 72 _ (enters_of Tryz.func72 (by kernel_rfl) rfl) (pointsP k f0 f1 f2 f3 g p) f0 r _ (fun x b W _ _ hW hb=>points1_calls k w.heap.size (w.heap.size+2) (w.heap.size+1) f0 f1 f2 f3 g p x b W ((hW.block _ (by have:=HL.out;omega)).trans HF.out) ((hW.block _ HL.out).trans HP.out) ((hW.block _ (by have:=HL.out;omega)).trans HG.out) hb) hm.out hr.out).mono ?_
 rintro e w3 ⟨v3,rfl,ho3,hb3⟩
 have hle:w.heap.size≤w1.heap.size:=by have:=HL.out;omega
 have HO4:=Aside0.mk (Kd.R_lower ho3 hle)
 have HB5:=Aside0.mk (below_then HB1.out hle hb3)
 clear ho3 hb3 HG HL HF HP HB1 hr hm hle
 go_wp2
 go_ret
 exact ⟨_,rfl,HO4.out,HB5.out⟩
end Go.Proofs.YtlmohkbimnhecaaGreat.Q
