/-
  The reference's draws end, whatever the code: what is drawn below n is in range; lists that are put together stay short. Codes of bytes.
-/
import Derived.Test.YtlmohkbimnhecaaGreatQ1
import Derived.Test.YtlmohkbimnhecaaGreatHof
import Derived.Test.YtlmohkbimnhecaaGreatBase
namespace Go.Proofs.YtlmohkbimnhecaaGreat.B
open Go.RowKit Go.Proofs.YtlmohkbimnhecaaGreat.Q Go.Proofs.YtlmohkbimnhecaaGreatW.PrintWords Go.Proofs.YtlmohkbimnhecaaGreatW.PrintLast Go.Proofs.YtlmohkbimnhecaaGreatW.PrintMore
def Tot {α:Type} (f:Nat→Option α) (P:α→Prop):Prop:=∃ v,Ev f v∧P v
theorem Tot.bind {α β:Type} {f:Nat→Option α} {g:Nat→α→Option β} {P:α→Prop} {Q:β→Prop} (h:Tot f P) (h2:∀ v,P v→Tot (fun k=>g k v) Q):Tot (fun k=>(f k).bind (g k)) Q:=by
 obtain ⟨v,h1,hp⟩:=h
 obtain ⟨u,h3,hq⟩:=h2 v hp
 exact ⟨u,evB h1 h3,hq⟩
theorem Tot.val {α:Type} {v:α} {P:α→Prop} (h:P v):Tot (fun _=>some v) P:=⟨v,evS v,h⟩
theorem Tot.yes {α:Type} {c:Prop} [Decidable c] {f g:Nat→Option α} {P:α→Prop} (hc:c) (h:Tot f P):Tot (fun k=>if c then f k else g k) P:=by
 obtain ⟨v,h1,hp⟩:=h
 exact ⟨v,evT hc h1,hp⟩
theorem Tot.no {α:Type} {c:Prop} [Decidable c] {f g:Nat→Option α} {P:α→Prop} (hc:¬ c) (h:Tot g P):Tot (fun k=>if c then f k else g k) P:=by
 obtain ⟨v,h1,hp⟩:=h
 exact ⟨v,evF hc h1,hp⟩
theorem Tot.ite {α:Type} {c:Prop} [Decidable c] {f g:Nat→Option α} {P:α→Prop} (h1:c→Tot f P) (h2:¬ c→Tot g P):Tot (fun k=>if c then f k else g k) P:=by
 by_cases hc:c
 ·exact Tot.yes hc (h1 hc)
 ·exact Tot.no hc (h2 hc)
theorem Tot.succ {α:Type} {f g:Nat→Option α} {P:α→Prop} (he:∀ k,f (k+1)=g k) (h:Tot g P):Tot f P:=by
 obtain ⟨v,h1,hp⟩:=h
 exact ⟨v,evSucc he h1,hp⟩
theorem Tot.weaken {α:Type} {f:Nat→Option α} {P Q:α→Prop} (h:Tot f P) (hPQ:∀ v,P v→Q v):Tot f Q:=by
 obtain ⟨v,h1,hp⟩:=h
 exact ⟨v,h1,hPQ v hp⟩
theorem Tot.const {α:Type} {o:Option α} {P:α→Prop} (h:∃ v,o=some v∧P v):Tot (fun _=>o) P:=by
 obtain ⟨v,h1,hp⟩:=h
 exact ⟨v,evG h1 (evS v) |> fun _=>⟨0,fun k _=>h1⟩,hp⟩
theorem u64_pos (x:Int):0≤IntKind.u64.wrap x:=by
 have:IntKind.u64.wrap x=x%18446744073709551616:=by
  unfold IntKind.wrap
  simp [IntKind.bits,IntKind.signed]
 omega
def OkC (cl:List Int) (at_:Int):Prop:=(∀ x∈cl,0≤x∧x≤255)∧0≤at_∧cl.length≤4611686018427387904∧at_≤cl.length
theorem u64_lt (x:Int):IntKind.u64.wrap x<18446744073709551616:=by
 have:IntKind.u64.wrap x=x%18446744073709551616:=by
  unfold IntKind.wrap
  simp [IntKind.bits,IntKind.signed]
 omega
theorem mask24 (y:Int) (h0:0≤y) (h1:y<18446744073709551616):0≤Go.bits .and .u64 (y/8589934592) 16777215∧Go.bits .and .u64 (y/8589934592) 16777215≤16777215:=by
 have k62:(2:Nat) ^ 62=4611686018427387904:=by decide
 have hq0:0≤y/8589934592:=by omega
 have hq1:y/8589934592<2147483648:=by omega
 obtain ⟨q,hq⟩:=Int.eq_ofNat_of_zero_le hq0
 rw [hq] at hq1 ⊢
 have e:=(bits_nat .u64 62 (by decide) (fun n h0 h1=>by rw [show (2:Int) ^ 62=4611686018427387904 by decide] at h1;exact u64_in n h0 (by omega)) q 16777215 (by omega) (by omega)).1
 have e2:Go.bits .and .u64 (q:Int) 16777215=((q&&&16777215:Nat):Int):=e
 rw [e2]
 have:=Nat.and_le_right (n:=q) (m:=16777215)
 omega
theorem rd_in {cl:List Int} (h:∀ x∈cl,0≤x∧x≤255) (i:Int):0≤rd cl i∧rd cl i≤255:=by
 unfold rd
 rw [List.getD_eq_getElem?_getD]
 cases e:cl[i.toNat]? with
 |none=>simp
 |some x=>exact h x (List.mem_of_getElem? e)
def Drew (cl:List Int) (n:Int) (v:Int×Int×Int):Prop:=OkC cl v.2.1∧(1≤n→0≤v.1∧v.1<n)∧(n<1→v.1=0)
theorem next_val (cl:List Int) (a h n:Int) (hc:OkC cl a):∃ v,spec_l01Next.f cl a h n=some v∧Drew cl n v:=by
 obtain ⟨c1,c2,c3,c4⟩:=hc
 unfold spec_l01Next.f
 by_cases hn:n<1
 ·rw [if_pos hn]
  exact ⟨_,rfl,⟨c1,c2,c3,c4⟩,fun h=>by omega,fun _=>rfl⟩
 ·rw [if_neg hn]
  obtain ⟨m0,m1⟩:=mask24 (IntKind.u64.wrap ((IntKind.u64.wrap (h*6364136223846793005))+1442695040888963407)) (u64_pos _) (u64_lt _)
  generalize Go.bits .and .u64 ((IntKind.u64.wrap ((IntKind.u64.wrap (h*6364136223846793005))+1442695040888963407))/8589934592) 16777215=m at m0 m1 ⊢
  by_cases hl:a<(cl.length:Int)
  ·obtain ⟨r0,r1⟩:=rd_in c1 a
   rw [if_pos hl,if_pos c2,if_neg (by omega),wrap_in (x:=m) (by omega) (by omega),wrap_in (x:=rd cl a) (by omega) (by omega),wrap_in (x:=m+rd cl a) (by omega) (by omega),wrap_in (x:=a+1) (by omega) (by omega)]
   exact ⟨_,rfl,⟨c1,by show 0≤a+1;omega,c3,by show a+1≤_;omega⟩,fun _=>⟨Int.tmod_nonneg _ (by omega),Int.tmod_lt_of_pos _ (by omega)⟩,fun h=>by omega⟩
  ·rw [if_neg hl,if_neg (by omega),wrap_in (x:=m) (by omega) (by omega)]
   exact ⟨_,rfl,⟨c1,c2,c3,c4⟩,fun _=>⟨Int.tmod_nonneg _ (by omega),Int.tmod_lt_of_pos _ (by omega)⟩,fun h=>by omega⟩
theorem next_tot (cl:List Int) (a h n:Int) (hc:OkC cl a):Tot (fun _=>spec_l01Next.f cl a h n) (Drew cl n):=Tot.const (next_val cl a h n hc)
theorem pick_tot (cl:List Int) (a h:Int) (l:List Int) (hl:l≠[]) (hm:l.length≤1000) (hc:OkC cl a):Tot (fun _=>spec_l01Pick.f cl a h l) (fun v=>OkC cl v.2.1∧v.1∈l):=by
 have h0:1≤l.length:=by
  cases l with
  |nil=>exact absurd rfl hl
  |cons x l=>simp
 refine Tot.const ?_
 unfold spec_l01Pick.f
 obtain ⟨v,h1,h2,h3,_⟩:=next_val cl a h (l.length:Int) hc
 obtain ⟨h4,h5⟩:=h3 (by omega)
 rw [h1,Option.bind_some,if_pos h4,if_pos h5]
 refine ⟨_,rfl,h2,?_⟩
 show rd l v.1∈l
 unfold rd
 rw [List.getD_eq_getElem?_getD,List.getElem?_eq_getElem (by omega)]
 exact List.getElem_mem _
theorem from_l (x cl:List Int) (_hx:x.length≤4611686018427387904) (a:Int) (d:Nat):∀ (i h:Int),0≤i→(x.length:Int)=i+d→Tot (fun k=>spec_l01From.l0 k x i cl a h) (fun v=>v.1=cl∧v.2.1=a):=by
 induction d with
 |zero=>
  intro i h h0 hd
  exact Tot.succ (fun k=>by rw [spec_l01From.l0]) (Tot.no (by omega) (Tot.val ⟨rfl,rfl⟩))
 |succ d ih=>
  intro i h h0 hd
  refine Tot.succ (fun k=>by rw [spec_l01From.l0]) (Tot.yes (by omega) (Tot.ite (fun _=>Tot.yes h0 ?_) (fun _=>Tot.val ⟨rfl,rfl⟩)))
  rw [wrap_in (x:=i+1) (by omega) (by omega)]
  exact ih (i+1) _ (by omega) (by omega)
theorem from_tot (cl:List Int) (hb:∀ x∈cl,0≤x∧x≤255) (hl:cl.length≤4611686018427387904):Tot (fun k=>spec_l01From.f k cl) (fun v=>v.1=cl∧OkC cl v.2.1):=by
 unfold spec_l01From.f
 refine Tot.weaken (from_l cl cl hl 0 cl.length 0 _ (by omega) (by omega)) (fun v hv=>⟨hv.1,?_⟩)
 rw [hv.2]
 exact ⟨hb,by omega,hl,by omega⟩
end Go.Proofs.YtlmohkbimnhecaaGreat.B
