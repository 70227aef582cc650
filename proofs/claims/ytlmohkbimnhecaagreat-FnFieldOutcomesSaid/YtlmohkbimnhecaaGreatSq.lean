/-
  Short words for printed walks (tools/squeeze.py): each stands for a few lines of a printed text. No condition.
-/
import Derived.Test.YtlmohkbimnhecaaGreatQ0
namespace Go.Proofs.YtlmohkbimnhecaaGreat.Q
open Go.RowKit Go.Proofs.YtlmohkbimnhecaaGreatW.PrintWords Go.Proofs.YtlmohkbimnhecaaGreatW.PrintLast Go.Proofs.YtlmohkbimnhecaaGreatW.PrintMore
theorem zR {p q:Prop} (h:p) (f:p→q:=by intro h_;(with_reducible repeat (first|apply Kd.R_alloc|apply Kd.R_drewN|apply Kd.R_drew));exact h_):q:=f h
theorem zRm {α:Type} {d:Kd α} {e base:Nat} {w W:World} {ok ok':Nat→Prop} {v:Value} {xs:List α} (h:d.R e w base ok v xs) (hk:∀ k,ok k→ok' k) (f:d.R e w base ok' v xs→d.R e W base ok' v xs:=by intro h_;(with_reducible repeat (first|apply Kd.R_alloc|apply Kd.R_drewN|apply Kd.R_drew));exact h_):d.R e W base ok' v xs:=f (Kd.R_mono h hk)
theorem zB {p q:Prop} (h:p) (f:p→q:=by intro h_;(with_reducible repeat (first|refine blk_drewN ?_ _|refine blk_drew ?_|refine blk_alloc ?_ _));exact h_):q:=f h
theorem zH {p q:Prop} (h:p) (f:p→q:=by intro h_;repeat (first|(with_reducible first|exact h_|apply below_alloc|apply pw_below_drewN|apply below_drew1)|exact h_)):q:=f h
theorem zH1 {p q a:Prop} (h:p) (g:a) (f:p→a→q:=by intro h_ g_;repeat (first|(with_reducible first|exact h_|apply below_alloc|apply pw_below_drewN|apply below_drew1|refine below_set ?_ g_)|exact h_)):q:=f h g
theorem zH2 {p q a b:Prop} (h:p) (g:a) (k:b) (f:p→a→b→q:=by intro h_ g_ k_;repeat (first|(with_reducible first|exact h_|apply below_alloc|apply pw_below_drewN|apply below_drew1|refine below_set ?_ g_|refine below_set ?_ k_)|exact h_)):q:=f h g k
theorem zH3 {p q a b c:Prop} (h:p) (g:a) (k:b) (m:c) (f:p→a→b→c→q:=by intro h_ g_ k_ m_;repeat (first|(with_reducible first|exact h_|apply below_alloc|apply pw_below_drewN|apply below_drew1|refine below_set ?_ g_|refine below_set ?_ k_|refine below_set ?_ m_)|exact h_)):q:=f h g k m
theorem zK {p q:Prop} (h:p) (f:p→q:=by intro h_;repeat (first|(with_reducible first|exact h_|apply Kept.alloc|apply Kept.drewN|apply Kept.drew)|exact h_)):q:=f h
theorem zK1 {p q a:Prop} (h:p) (g:a) (f:p→a→q:=by intro h_ g_;repeat (first|(with_reducible first|exact h_|apply Kept.alloc|apply Kept.drewN|apply Kept.drew|refine Kept.setCell ?_ (.inr g_) _)|exact h_)):q:=f h g
theorem zH4 {p q a b c d:Prop} (h:p) (k0:a) (k1:b) (k2:c) (k3:d) (f:p→a→b→c→d→q:=by intro h_ k0_ k1_ k2_ k3_;repeat (first|(with_reducible first|exact h_|apply below_alloc|apply pw_below_drewN|apply below_drew1|refine below_set ?_ k0_|refine below_set ?_ k1_|refine below_set ?_ k2_|refine below_set ?_ k3_)|exact h_)):q:=f h k0 k1 k2 k3
theorem zJ {p q:Prop} (h:p) (f:p→q:=by intro h_;repeat (first|(with_reducible first|exact h_|apply KeepBut.set_|apply keep_drewN|apply keep_drew|apply keep_alloc)|exact h_)):q:=f h
theorem zJ1 {p q a:Prop} (h:p) (k0:a) (f:p→a→q:=by intro h_ k0_;repeat (first|(with_reducible first|exact h_|apply KeepBut.set_|apply keep_drewN|apply keep_drew|apply keep_alloc|refine keep_far ?_ k0_ _)|exact h_)):q:=f h k0
theorem zJ2 {p q a b:Prop} (h:p) (k0:a) (k1:b) (f:p→a→b→q:=by intro h_ k0_ k1_;repeat (first|(with_reducible first|exact h_|apply KeepBut.set_|apply keep_drewN|apply keep_drew|apply keep_alloc|refine keep_far ?_ k0_ _|refine keep_far ?_ k1_ _)|exact h_)):q:=f h k0 k1
theorem zI {p q:Prop} (h:p) (f:p→q:=by intro h_;repeat (first|(with_reducible first|exact h_|apply IsS115.alloc|apply IsS115.drewN|apply IsS115.drew|apply IsS115.set_1|apply IsS115.set_2)|exact h_)):q:=f h
theorem zI1 {p q a:Prop} (h:p) (k0:a) (f:p→a→q:=by intro h_ k0_;repeat (first|(with_reducible first|exact h_|apply IsS115.alloc|apply IsS115.drewN|apply IsS115.drew|apply IsS115.set_1|apply IsS115.set_2|refine IsS115.far ?_ k0_ _)|exact h_)):q:=f h k0
theorem zI2 {p q a b:Prop} (h:p) (k0:a) (k1:b) (f:p→a→b→q:=by intro h_ k0_ k1_;repeat (first|(with_reducible first|exact h_|apply IsS115.alloc|apply IsS115.drewN|apply IsS115.drew|apply IsS115.set_1|apply IsS115.set_2|refine IsS115.far ?_ k0_ _|refine IsS115.far ?_ k1_ _)|exact h_)):q:=f h k0 k1
theorem zY {w0 w w1:World} {g:Nat} {o:Obj} (h:w0.heap[g]?=some o) (hb:Below w.heap.size w w1) (f:w0.heap[g]?=some o→w.heap[g]?=some o:=by intro h_;(with_reducible repeat (first|refine blk_drewN ?_ _|refine blk_drew ?_|refine blk_alloc ?_ _));exact h_):w1.heap[g]?=some o:=blk_below (f h) hb
theorem zYk {w0 w w1:World} {g g2:Nat} {row:Option Nat} {o:Obj} (hk:KeepBut w w1 g row) (h:w0.heap[g2]?=some o) (hg:g2≠g) (f:w0.heap[g2]?=some o→w.heap[g2]?=some o:=by intro h_;(with_reducible repeat (first|refine blk_drewN ?_ _|refine blk_drew ?_|refine blk_alloc ?_ _));exact h_) (hr:some g2≠row:=by simp):w1.heap[g2]?=some o:=KeepBut.blk hk (f h) hg hr
def Row (w:World) (g:Nat) (t:TypeId) (cs:Array Value):Prop:=w.heap[g]?=some (.cells cs t (0,0))
theorem Row.put {w:World} {g:Nat} {t:TypeId} (P:Array Value→Prop) (i:Nat) (u:Value) (h:∃ cs,Row w g t cs∧P (cs.setIfInBounds i u)):∃ cs,Row (w.setCell ⟨g,i,none⟩ u) g t cs∧P cs:=by
 obtain ⟨cs,h1,h2⟩:=h
 exact ⟨_,blk_put h1 i u rfl,h2⟩
theorem Row.far {w:World} {g:Nat} {t:TypeId} {P:Array Value→Prop} {p:Addr} {u:Value} (hp:g≠p.block) (h:∃ cs,Row w g t cs∧P cs):∃ cs,Row (w.setCell p u) g t cs∧P cs:=by
 obtain ⟨cs,h1,h2⟩:=h
 exact ⟨_,blk_far h1 hp u,h2⟩
theorem Row.drewN {w:World} {g:Nat} {t:TypeId} {P:Array Value→Prop} {n:Nat} (h:∃ cs,Row w g t cs∧P cs):∃ cs,Row (w.drewN n) g t cs∧P cs:=h
theorem Row.drew {w:World} {g:Nat} {t:TypeId} {P:Array Value→Prop} (h:∃ cs,Row w g t cs∧P cs):∃ cs,Row w.drew g t cs∧P cs:=h
theorem Row.alloc {w:World} {g:Nat} {t:TypeId} {P:Array Value→Prop} {o:Obj} (h:∃ cs,Row w g t cs∧P cs):∃ cs,Row (w.alloc o) g t cs∧P cs:=by
 obtain ⟨cs,h1,h2⟩:=h
 exact ⟨cs,blk_alloc h1 _,h2⟩
theorem Row.out {w:World} {g:Nat} {t:TypeId} {cs:Array Value} (h:∃ c,Row w g t c∧c=cs):w.heap[g]?=some (.cells cs t (0,0)):=by
 obtain ⟨c,h1,rfl⟩:=h
 exact h1
theorem zQ {p q:Prop} (h:p) (f:p→q:=by intro h_;(with_reducible refine Row.out ?_;repeat (first|refine Row.drewN ?_|refine Row.drew ?_|refine Row.alloc ?_|refine Row.put _ _ _ ?_));exact ⟨_,h_,rfl⟩):q:=f h
theorem zQ1 {p q a:Prop} (h:p) (n0:a) (f:p→a→q:=by intro h_ n0_;(with_reducible refine Row.out ?_;repeat (first|refine Row.drewN ?_|refine Row.drew ?_|refine Row.alloc ?_|refine Row.put _ _ _ ?_|refine Row.far n0_ ?_));exact ⟨_,h_,rfl⟩):q:=f h n0
theorem zO {p:Prop} (h:p:=by repeat' first|(with_reducible apply ih0)|(with_reducible apply ih1)|(with_reducible apply ih2)|(with_reducible apply ih3)|(with_reducible apply ih4)|(with_reducible apply ih5)|(with_reducible exact LeO.refl _)|(with_reducible exact LeO.none _)|(with_reducible refine LeO.ite ?_ ?_)|(with_reducible refine LeO.bind ?_ (fun _=>?_))|apply ih0|apply ih1|apply ih2|apply ih3|apply ih4|apply ih5|exact LeO.none _|refine LeO.ite ?_ ?_|refine LeO.bind ?_ (fun _=>?_)):p:=h
theorem zO1 {p a:Prop} (m0:a) (h:a→p:=by intro m0_;repeat' first|(with_reducible apply ih0)|(with_reducible apply ih1)|(with_reducible apply ih2)|(with_reducible apply ih3)|(with_reducible apply ih4)|(with_reducible apply ih5)|(with_reducible apply m0_)|(with_reducible exact LeO.refl _)|(with_reducible exact LeO.none _)|(with_reducible refine LeO.ite ?_ ?_)|(with_reducible refine LeO.bind ?_ (fun _=>?_))|apply ih0|apply ih1|apply ih2|apply ih3|apply ih4|apply ih5|apply m0_|exact LeO.none _|refine LeO.ite ?_ ?_|refine LeO.bind ?_ (fun _=>?_)):p:=h m0
theorem zO2 {p a b:Prop} (m0:a) (m1:b) (h:a→b→p:=by intro m0_ m1_;repeat' first|(with_reducible apply ih0)|(with_reducible apply ih1)|(with_reducible apply ih2)|(with_reducible apply ih3)|(with_reducible apply ih4)|(with_reducible apply ih5)|(with_reducible apply m0_)|(with_reducible apply m1_)|(with_reducible exact LeO.refl _)|(with_reducible exact LeO.none _)|(with_reducible refine LeO.ite ?_ ?_)|(with_reducible refine LeO.bind ?_ (fun _=>?_))|apply ih0|apply ih1|apply ih2|apply ih3|apply ih4|apply ih5|apply m0_|apply m1_|exact LeO.none _|refine LeO.ite ?_ ?_|refine LeO.bind ?_ (fun _=>?_)):p:=h m0 m1
theorem zS {a b c:Nat} (hg:c=b) (h:a≤b):a≤c:=by rw [hg];exact h
theorem zM {p:Prop} (h:p:=by (try simp only [List.map_toArray,List.map_cons,List.map_nil]);first|done|rfl|(simp only [List.length_drop,List.length_take];rfl)):p:=h
theorem zM1 {p e:Prop} (he:e) (h:e→p:=by intro e_;(try simp only [List.map_toArray,List.map_cons,List.map_nil]);first|done|(simp only [e_];rfl)|rfl|(simp only [List.length_drop,List.length_take];rfl)):p:=h he
theorem zE {p:Prop} (h:p:=by first|rfl|(simp [errW_none,errW_some] <;> rfl)|(simp [*,errW_none,errW_some] <;> rfl)):p:=h
theorem zF {p:Prop} (h:p:=by first|rfl|(simp;done)|(simp [*];done)):p:=h
theorem zA2 {a b r:Prop} (x0:a) (x1:b) (h:Aside0 a→Aside0 b→r):r:=h ⟨x0⟩ ⟨x1⟩
theorem zA3 {a b c r:Prop} (x0:a) (x1:b) (x2:c) (h:Aside0 a→Aside0 b→Aside0 c→r):r:=h ⟨x0⟩ ⟨x1⟩ ⟨x2⟩
theorem zA4 {a b c d r:Prop} (x0:a) (x1:b) (x2:c) (x3:d) (h:Aside0 a→Aside0 b→Aside0 c→Aside0 d→r):r:=h ⟨x0⟩ ⟨x1⟩ ⟨x2⟩ ⟨x3⟩
theorem zA5 {a b c d e r:Prop} (x0:a) (x1:b) (x2:c) (x3:d) (x4:e) (h:Aside0 a→Aside0 b→Aside0 c→Aside0 d→Aside0 e→r):r:=h ⟨x0⟩ ⟨x1⟩ ⟨x2⟩ ⟨x3⟩ ⟨x4⟩
theorem zA6 {a b c d e f r:Prop} (x0:a) (x1:b) (x2:c) (x3:d) (x4:e) (x5:f) (h:Aside0 a→Aside0 b→Aside0 c→Aside0 d→Aside0 e→Aside0 f→r):r:=h ⟨x0⟩ ⟨x1⟩ ⟨x2⟩ ⟨x3⟩ ⟨x4⟩ ⟨x5⟩
theorem zA7 {a b c d e f g r:Prop} (x0:a) (x1:b) (x2:c) (x3:d) (x4:e) (x5:f) (x6:g) (h:Aside0 a→Aside0 b→Aside0 c→Aside0 d→Aside0 e→Aside0 f→Aside0 g→r):r:=h ⟨x0⟩ ⟨x1⟩ ⟨x2⟩ ⟨x3⟩ ⟨x4⟩ ⟨x5⟩ ⟨x6⟩
theorem zA8 {a b c d e f g i r:Prop} (x0:a) (x1:b) (x2:c) (x3:d) (x4:e) (x5:f) (x6:g) (x7:i) (h:Aside0 a→Aside0 b→Aside0 c→Aside0 d→Aside0 e→Aside0 f→Aside0 g→Aside0 i→r):r:=h ⟨x0⟩ ⟨x1⟩ ⟨x2⟩ ⟨x3⟩ ⟨x4⟩ ⟨x5⟩ ⟨x6⟩ ⟨x7⟩
theorem zA10 {a b c d e f g i j k r:Prop} (x0:a) (x1:b) (x2:c) (x3:d) (x4:e) (x5:f) (x6:g) (x7:i) (x8:j) (x9:k) (h:Aside0 a→Aside0 b→Aside0 c→Aside0 d→Aside0 e→Aside0 f→Aside0 g→Aside0 i→Aside0 j→Aside0 k→r):r:=h ⟨x0⟩ ⟨x1⟩ ⟨x2⟩ ⟨x3⟩ ⟨x4⟩ ⟨x5⟩ ⟨x6⟩ ⟨x7⟩ ⟨x8⟩ ⟨x9⟩
theorem zA11 {a b c d e f g i j k l r:Prop} (x0:a) (x1:b) (x2:c) (x3:d) (x4:e) (x5:f) (x6:g) (x7:i) (x8:j) (x9:k) (x10:l) (h:Aside0 a→Aside0 b→Aside0 c→Aside0 d→Aside0 e→Aside0 f→Aside0 g→Aside0 i→Aside0 j→Aside0 k→Aside0 l→r):r:=h ⟨x0⟩ ⟨x1⟩ ⟨x2⟩ ⟨x3⟩ ⟨x4⟩ ⟨x5⟩ ⟨x6⟩ ⟨x7⟩ ⟨x8⟩ ⟨x9⟩ ⟨x10⟩
theorem zA12 {a b c d e f g i j k l m r:Prop} (x0:a) (x1:b) (x2:c) (x3:d) (x4:e) (x5:f) (x6:g) (x7:i) (x8:j) (x9:k) (x10:l) (x11:m) (h:Aside0 a→Aside0 b→Aside0 c→Aside0 d→Aside0 e→Aside0 f→Aside0 g→Aside0 i→Aside0 j→Aside0 k→Aside0 l→Aside0 m→r):r:=h ⟨x0⟩ ⟨x1⟩ ⟨x2⟩ ⟨x3⟩ ⟨x4⟩ ⟨x5⟩ ⟨x6⟩ ⟨x7⟩ ⟨x8⟩ ⟨x9⟩ ⟨x10⟩ ⟨x11⟩
theorem zA13 {a b c d e f g i j k l m n r:Prop} (x0:a) (x1:b) (x2:c) (x3:d) (x4:e) (x5:f) (x6:g) (x7:i) (x8:j) (x9:k) (x10:l) (x11:m) (x12:n) (h:Aside0 a→Aside0 b→Aside0 c→Aside0 d→Aside0 e→Aside0 f→Aside0 g→Aside0 i→Aside0 j→Aside0 k→Aside0 l→Aside0 m→Aside0 n→r):r:=h ⟨x0⟩ ⟨x1⟩ ⟨x2⟩ ⟨x3⟩ ⟨x4⟩ ⟨x5⟩ ⟨x6⟩ ⟨x7⟩ ⟨x8⟩ ⟨x9⟩ ⟨x10⟩ ⟨x11⟩ ⟨x12⟩
theorem zl {a b c:Nat} (hg:c=b) (h:a<b):a≠c:=by rw [hg];exact Nat.ne_of_lt h
theorem zg {a b c:Nat} (hg:c=b) (h:a<b):c≠a:=by rw [hg];exact Nat.ne_of_gt h
theorem zb {α β:Type} {o:Option α} {f:α→Option β} {r:β} (h:o.bind f=some r):∃ x,Aside0 (o=some x)∧f x=some r:=by
 obtain ⟨x,h1,h2⟩:=Option.bind_eq_some_iff.mp h
 exact ⟨x,⟨h1⟩,h2⟩
theorem zj (e:Int):∃ j:Int,e=j:=⟨_,rfl⟩
theorem zq1 {α:Type} [BEq α] [LawfulBEq α] {a b:α} (h:a=b):(a==b)=true:=beq_iff_eq.mpr h
theorem zq2 {α:Type} [BEq α] [LawfulBEq α] {a b:α} (h:a=b):(a !=b)=false:=bne_eq_false_iff_eq.mpr h
theorem zq3 {α:Type} [BEq α] [LawfulBEq α] {a b:α} (h:¬ a=b):(a==b)=false:=beq_eq_false_iff_ne.mpr h
theorem zq4 {α:Type} [BEq α] [LawfulBEq α] {a b:α} (h:¬ a=b):(a !=b)=true:=bne_iff_ne.mpr h
theorem zD {p:Prop} (h:p:=by repeat (first|exact Drawn0.refl _|apply Drawn0.step)):p:=h
section
variable {w:World} {g:Nat} {t:TypeId} {a b c d e f i:Value}
theorem zc1 (h:Aside0 (w.heap[g]?=some (.cells #[a] t (0,0)))):w.cell? ⟨g,0,none⟩=some a:=blk_cell h.out 0
theorem zc2 (h:Aside0 (w.heap[g]?=some (.cells #[a,b] t (0,0)))):w.cell? ⟨g,0,none⟩=some a∧w.cell? ⟨g,1,none⟩=some b:=⟨blk_cell h.out 0,blk_cell h.out 1⟩
theorem zc4 (h:Aside0 (w.heap[g]?=some (.cells #[a,b,c,d] t (0,0)))):w.cell? ⟨g,0,none⟩=some a∧w.cell? ⟨g,1,none⟩=some b∧w.cell? ⟨g,2,none⟩=some c∧w.cell? ⟨g,3,none⟩=some d:=⟨blk_cell h.out 0,blk_cell h.out 1,blk_cell h.out 2,blk_cell h.out 3⟩
theorem zf1 {o:Array Value} (h:Aside0 (w.heap[g]?=some (.cells o t (0,0)))):w.frozen? ⟨g,0,none⟩=false:=blk_frozen h.out 0
theorem zf2 {o:Array Value} (h:Aside0 (w.heap[g]?=some (.cells o t (0,0)))):w.frozen? ⟨g,0,none⟩=false∧w.frozen? ⟨g,1,none⟩=false:=⟨blk_frozen h.out 0,blk_frozen h.out 1⟩
theorem zf4 {o:Array Value} (h:Aside0 (w.heap[g]?=some (.cells o t (0,0)))):w.frozen? ⟨g,0,none⟩=false∧w.frozen? ⟨g,1,none⟩=false∧w.frozen? ⟨g,2,none⟩=false∧w.frozen? ⟨g,3,none⟩=false:=⟨blk_frozen h.out 0,blk_frozen h.out 1,blk_frozen h.out 2,blk_frozen h.out 3⟩
end
section
variable {P:Program} {ops:Array Oper} {rest:List Oper} {o:Oper} {a:Act} {Q:Exit→Act→World→Prop}
theorem zX {W:World} (N:Tmp) (cs:Array Value) (t:TypeId)
 (h:∀ g,g=W.heap.size→∀ w1,w1.heap[g]?=some (.cells cs t (0,0))→Below W.heap.size W w1→wpList P ops Q rest (a.put o.dst (.pointer (some ⟨g,0,none⟩))) w1)
 (hd:o.dst=some N:=by rfl) (hgd:o.guard=none:=by rfl)
 (hrun:(execOp a.eval o).run P W=.ok (.value (.pointer (some ⟨W.heap.size,0,none⟩))) (W.alloc (.cells cs t (0,0))):=by first|(go_simp;done)|(go_simp;rfl)):wpList P ops Q (o::rest) a W:=box_event hgd hd hrun h
end
section
variable {P:Program} {ops:Array Oper} {Q:Exit→Act→World→Prop} {md:Region.Mode} {S:World→Prop} {ds:List Nat} {T:Bool×List (List Nat×List Nat)} {B:List Nat}
theorem zW {fuel:Nat} {l:Array Bool} {a a':Act} {v:Value} {dst:Option Tmp} {w:World} (N:Option Tmp) (h:wpAnyLast P md ops Q S ds fuel l a' w) (hN:dst=N:=by rfl)
 (ha:a.put N v=a':=by simp only [Act.put,List.setIfInBounds_toArray,List.set_cons_zero,List.set_cons_succ,i64_w,i32_w];rfl):wpAnyLast P md ops Q S ds fuel l (a.put dst v) w:=by
 subst hN
 exact norm_ ha h
theorem zP {oi:Oper} {v:Value} {fuel:Nat} {l l':Array Bool} {a a':Act} {w:World} (HT:Aside0 (rtab md ops=T)) (i:Nat) (N:Option Tmp) (hi:ops[i]?=some oi) (hN:oi.dst=N)
 (h:wpAnyLast P md ops Q S ds fuel l' a' w) (_hl:l.setIfInBounds i true=l':=by simp only [List.setIfInBounds_toArray,List.set_cons_zero,List.set_cons_succ];rfl) (hc:anyT T l.toList l'.toList i=true:=by kernel_rfl) (hw:Region.wanted oi (yielded ops a.tmps)=true:=by rfl)
 (hy:∀ w,(execOp a.eval oi).run P w=.ok (.value v) w:=by intro w';go_simp;with_reducible rfl)
 (ha:a.put N v=a':=by simp only [Act.put,List.setIfInBounds_toArray,List.set_cons_zero,List.set_cons_succ,i64_w,i32_w];rfl)
 (hQ:∀ c a w,Q (.panic c) (a.put oi.dst v) w→Q (.panic c) a w:=by exact fun _ _ _ h=>h):wpAnyLast P md ops Q S ds (fuel+1) l a w:=
 pure_ (v:=v) l' hi hN (any_of HT.out hc) hQ (Or.inl ⟨hw,hy⟩) ha h
theorem zT {oi:Oper} {v:Value} {fuel:Nat} {l l':Array Bool} {a a':Act} {w:World} (HT:Aside0 (rtab md ops=T)) (HW:Aside0 (waitsOk T.2 B=true)) (hS:S w) (i:Nat) (N:Option Tmp) (hi:ops[i]?=some oi) (hN:oi.dst=N)
 (h:wpAnyLast P md ops Q S ds fuel l' a' w) (_hl:l.setIfInBounds i true=l':=by simp only [List.setIfInBounds_toArray,List.set_cons_zero,List.set_cons_succ];rfl) (hc:takeW T B ds l.toList l'.toList i=true:=by kernel_rfl) (hw:Region.wanted oi (yielded ops a.tmps)=true:=by rfl)
 (hy:∀ w,S w→(execOp a.eval oi).run P w=.ok (.value v) w:=by intro w' hs_;(try dsimp only at hs_);repeat (have s_:=And.left hs_;replace hs_:=And.right hs_);go_simp;with_reducible rfl)
 (ha:a.put N v=a':=by simp only [Act.put,List.setIfInBounds_toArray,List.set_cons_zero,List.set_cons_succ,i64_w,i32_w];rfl)
 (hQ:∀ c a w,Q (.panic c) (a.put oi.dst v) w→Q (.panic c) a w:=by exact fun _ _ _ h=>h):wpAnyLast P md ops Q S ds (fuel+1) l a w:=
 take_ l' hi hN (take_ofW HT.out HW.out hc) hQ (Or.inl ⟨hw,hy⟩) hS ha h
theorem zU {oi:Oper} {fuel:Nat} {l l':Array Bool} {a a':Act} {w:World} (HT:Aside0 (rtab md ops=T)) (i:Nat) (N:Option Tmp) (hi:ops[i]?=some oi) (hN:oi.dst=N)
 (h:wpAnyLast P md ops Q S ds fuel l' a' w) (_hl:l.setIfInBounds i true=l':=by simp only [List.setIfInBounds_toArray,List.set_cons_zero,List.set_cons_succ];rfl) (hc:anyT T l.toList l'.toList i=true:=by kernel_rfl) (hw:Region.wanted oi (yielded ops a.tmps)=false:=by rfl)
 (ha:a.put N undef=a':=by simp only [Act.put,List.setIfInBounds_toArray,List.set_cons_zero,List.set_cons_succ,i64_w,i32_w];rfl)
 (hQ:∀ c a w,Q (.panic c) (a.put oi.dst undef) w→Q (.panic c) a w:=by exact fun _ _ _ h=>h):wpAnyLast P md ops Q S ds (fuel+1) l a w:=
 pure_ (v:=undef) l' hi hN (any_of HT.out hc) hQ (Or.inr ⟨hw,rfl⟩) ha h
end
theorem zo {p:Prop} [Decidable p] (h:decide p=true:=by first|(with_reducible assumption)|assumption):p:=of_decide_eq_true h
theorem zx {w:World} {g:Nat} {t:TypeId} {cs:Array Value} {v:Value} (h:Aside0 (w.heap[g]?=some (.cells cs t (0,0)))) (i:Nat) (e:cs[i]?=some v:=by rfl):w.cell? ⟨g,i,none⟩=some v:=(blk_cell h.out i).trans e
theorem zs {b:Nat} {u v w W:World} {c:Nat} (hg:c=W.heap.size) (h:Aside0 (Below b u v)) (f:Below b u v→Below w.heap.size w W:=by intro h_;repeat (first|(with_reducible first|exact h_|apply below_alloc|apply pw_below_drewN|apply below_drew1)|exact h_)):w.heap.size≤c:=by rw [hg];exact below_size (f h.out)
theorem zL {P:Program} {ops:Array Oper} {Q:Exit→Act→World→Prop} {rest:List Oper} {oi:Oper} {a:Act} {w:World} (N:Option Tmp) {f:FuncId} {fn:Func} {ar:Array Operand} {ts:Array TypeId} (hf:P.funcs[f]?=some fn) (args:Array Value)
 (h : Calls P f args w fun e w' => ∃ v, e = .returned v ∧ wpList P ops Q rest (a.put N v) w') (hd : oi.dst = N := by rfl) (hg : oi.guard = none := by rfl) (hname : (fn.name == "runtime.NumGoroutine") = false := by kernel_rfl) (hb : fn.body.isSome = true := by rfl)
 (hop:oi.op=.call { callee:=.value (.func f),args:=ar,argTypes:=ts }:=by rfl) (hargs:ar.map a.eval=args:=by (try simp only [List.map_toArray,List.map_cons,List.map_nil]);first|done|rfl|(simp only [List.length_drop,List.length_take];rfl)):wpList P ops Q (oi::rest) a w:=
 goesL_ N hd hg hf hname hb args hop hargs h
theorem zv {p:Prop} (h:p:=by first|exact ⟨rfl,_,World.drewN_drewN _ _ _⟩|exact ⟨rfl,_,Eq.trans (World.drewN_drewN _ _ _) (congrArg (World.drewN _) (Nat.add_assoc _ _ _))⟩|fail):p:=h
theorem zy {w W:World} {a:Addr} {v:Value} (h:Aside0 (Below w.heap.size w W)) (e:w.cell? a=some v):W.cell? a=some v:=(h.out.cell (World.block_lt_of_cell? w _ e)).trans e
theorem zp {P:Program} {ops:Array Oper} {Q:Exit→Act→World→Prop} {md:Region.Mode} {S:World→Prop} {ds:List Nat} {oi:Oper} {v:Value} {fuel:Nat} {l l':Array Bool} {a a':Act} {w:World} (i:Nat) (N:Option Tmp) (hi:ops[i]?=some oi) (hN:oi.dst=N)
 (h:wpAnyLast P md ops Q S ds fuel l' a' w) (_hl:l.setIfInBounds i true=l':=by simp only [List.setIfInBounds_toArray,List.set_cons_zero,List.set_cons_succ];rfl) (hc:anyB md ops l l' i=true:=by kernel_rfl) (hw:Region.wanted oi (yielded ops a.tmps)=true:=by rfl)
 (hy:∀ w,(execOp a.eval oi).run P w=.ok (.value v) w:=by intro w';go_simp;with_reducible rfl)
 (ha:a.put N v=a':=by simp only [Act.put,List.setIfInBounds_toArray,List.set_cons_zero,List.set_cons_succ,i64_w,i32_w];rfl)
 (hQ:∀ c a w,Q (.panic c) (a.put oi.dst v) w→Q (.panic c) a w:=by exact fun _ _ _ h=>h):wpAnyLast P md ops Q S ds (fuel+1) l a w:=
 pure_ (v:=v) l' hi hN hc hQ (Or.inl ⟨hw,hy⟩) ha h
end Go.Proofs.YtlmohkbimnhecaaGreat.Q
