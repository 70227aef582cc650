/-
  impl.chosen at whatever function value: it comes to the plain choice among the numbers below n. The function value may make memory of its own; what lay before stays. At most 1,000,000 numbers.
-/
import Derived.Test.YtlmohkbimnhecaaGreatQ0
import Derived.Shelf.Abstract
namespace Go.Proofs.YtlmohkbimnhecaaGreat.Q
open Go.RowKit Go.Proofs.YtlmohkbimnhecaaGreatW.PrintWords Go.Proofs.YtlmohkbimnhecaaGreatW.PrintLast Go.Proofs.YtlmohkbimnhecaaGreatW.PrintMore
def chooseP (p:Int→Option Bool):Nat→Int→Option (List Int)
 |0,_=>some []
 |d+1,i=>(p i).bind fun b=>(chooseP p d (i+1)).bind fun l=>some (if b=true then i::l else l)
set_option maxHeartbeats 4000000 in
theorem chosen_calls (g:Nat) (lb:Array Value) (eg:∀ args w,(callFunc g args).run Tryz.prog w=.ok (.enter g args) w) (p:Int→Option Bool) (n:Int) (r:List Int) (w:World)
 (hp:∀ x b W,0≤x→x<n→Below w.heap.size w W→p x=some b→Calls Tryz.prog g (#[.int .i64 x]++lb) W fun e w'=>e=.returned (.bool b)∧Below W.heap.size W w')
 (hn:n≤1000000) (h:chooseP p n.toNat 0=some r):
 Calls Tryz.prog 71 #[.int .i64 n,.func (.func g) #[] lb] w fun e w'=>∃ v:Value,e=.returned v∧Kd.R (Kd.int .i64) 2 w' w.heap.size (fun _=>True) v r∧Below w.heap.size w w':=by
 have HP:=Aside0.mk hp
 have H:=Aside0.mk h
 have HB:=Aside0.mk (Below.refl w.heap.size w)
 clear hp h
 go_enter Tryz.func71,Tryz.ntmps71
 go_wp2
 generalize hw1:w.alloc (.cells #[] 2)=w1
 have HB1:Aside0 (Below w.heap.size w w1):=⟨by rw [← hw1];exact (Below.refl _ _).alloc (Nat.le_refl _) _⟩
 have HO1:Aside0 (Kd.R (Kd.int .i64) 2 w1 w.heap.size (fun _=>True) (.slice (some ⟨w.heap.size,0,none⟩) 0 0) []):=⟨by
  have:=own_lit w w.heap.size 2 .i64 [] (Nat.le_refl _) (by simp)
  have h2:(w.alloc (.cells #[] 2)).ownsRow w.heap.size 2 1 (.slice (some ⟨w.heap.size,0,none⟩) 0 0) 0 []:=by simpa [nums] using this
  rw [← hw1]
  exact ⟨fun _ _=>trivial,[],h2,Reps.none _ _⟩⟩
 clear hw1 HB
 go_loopg [5,6,9] n.toNat (fun gg v5 _ v9 wr=>∃ (i:Int) (acc rest:List Int),0≤i∧(i≤n∨i=0)∧(n-i).toNat≤gg∧v9=.int .i64 i∧(acc.length:Int)≤i ∧
  Aside0 (Kd.R (Kd.int .i64) 2 wr w.heap.size (fun _=>True) v5 acc)∧Aside0 (Below w.heap.size w wr)∧Aside0 (chooseP p (n-i).toNat i=some rest)∧Aside0 (r=acc++rest))
 case atStart=>exact ⟨0,[],r,by omega,.inr rfl,by simp,rfl,by simp,HO1,HB1,⟨by simpa using H.out⟩,⟨by simp⟩⟩
 case round=>
  clear H HO1 HB1
  obtain ⟨i,acc,rest,hi0,hin,hg,rfl,hlen,HO,HB,HC,HR⟩:=hrel
  by_cases hlt:i<n
  ·obtain ⟨b,l,hb,HC2,HR2⟩:∃ b l,p i=some b∧Aside0 (chooseP p (n-(i+1)).toNat (i+1)=some l)∧Aside0 (rest=if b=true then i::l else l):=by
    have hC:=HC.out
    rw [show (n-i).toNat=(n-(i+1)).toNat+1 by omega] at hC
    simp only [chooseP] at hC
    obtain ⟨b,hb,hC⟩:=Option.bind_eq_some_iff.1 hC
    obtain ⟨l,hl,hC⟩:=Option.bind_eq_some_iff.1 hC
    exact ⟨b,l,hb,⟨hl⟩,⟨(Option.some.inj hC).symm⟩⟩
   have hcall:=HP.out i b wr hi0 hlt HB.out hb
   have hin1:i+1≤n:=by omega
   clear hb HC hin
   cases b with
   |true=>
    have HR3:Aside0 (r=(acc++[i])++l):=⟨by have:=HR.out;have:=HR2.out;simp_all⟩
    clear HR HR2
    go_wp2_with (first|(go_at_fn g;refine hcall.mono ?_;rintro e w' ⟨rfl,hb'⟩;have HO2:=Aside0.mk (Kd.R_below HO.out hb');have HB2:=Aside0.mk (below_then HB.out HB.out.size hb');clear HO HB hb')|(at_builtin;refine Kd.R_append (Kd.int .i64) (w0:=w) w.heap.size rfl (.tmp 15) (.tmp 17) 28 2 (.int .i64 0) 8 rfl Tryz.underlying28 info2 rfl (by decide) (by omega) u5 acc i [.int .i64 i] (fun _=>True) (fun _=>False) rfl rfl ?aP (fun _ hk=>hk.elim) ?aF ?aO ?aB ?aS ?aL ?_;(case aP=>exact rfl);(case aB=>exact HB2.out);(case aF=>exact (fun _ _=>trivial));(case aO=>exact HO2.out);(case aS=>exact HB2.out.size);(case aL=>omega);intro v1 w2 ho hb hg hat;have HO3:=Aside0.mk ho;have HB3:=Aside0.mk hb;clear ho hb hg hat HO2 HB2))
    go_roundg ((n-(i+1)).toNat)
    case measure=>omega
    case rel=>exact ⟨i+1,acc++[i],l,by omega,.inl hin1,by omega,by go_num,by simp;omega,HO3,HB3,HC2,HR3⟩
   |false=>
    have HR3:Aside0 (r=acc++l):=⟨by have:=HR.out;have:=HR2.out;simp_all⟩
    clear HR HR2
    go_wp2_with (first|(go_at_fn g;refine hcall.mono ?_;rintro e w' ⟨rfl,hb'⟩;have HO2:=Aside0.mk (Kd.R_below HO.out hb');have HB2:=Aside0.mk (below_then HB.out HB.out.size hb');clear HO HB hb'))
    go_roundg ((n-(i+1)).toNat)
    case measure=>omega
    case rel=>exact ⟨i+1,acc,l,by omega,.inl hin1,by omega,by go_num,by omega,HO2,HB2,HC2,HR3⟩
  ·have HR3:Aside0 (r=acc):=⟨by
    have hC:=HC.out
    rw [show (n-i).toNat=0 by omega] at hC
    simp only [chooseP,Option.some.injEq] at hC
    have:=HR.out
    simp_all⟩
   clear HR HC
   go_wp2
   go_ret
   exact ⟨_,rfl,by rw [HR3.out];exact HO.out,HB.out⟩
end Go.Proofs.YtlmohkbimnhecaaGreat.Q
