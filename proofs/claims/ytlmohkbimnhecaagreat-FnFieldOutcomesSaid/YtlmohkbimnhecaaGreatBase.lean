/-
  Plain lemmas: a choice among numbers by a condition that is told everywhere is a filter. No Go in them.
  Powers of two as shifts, and the bit operations on natural numbers. No condition beyond those that are written.
  Whether a number lies in bounds: what program and reference come to. No condition.
  The code of the first of two conditions that does not hold. No condition.
  The laws' own helpers on lists of numbers: a list is like itself. Lists of at most 1000 numbers.
-/
import Derived.Test.YtlmohkbimnhecaaGreatChosen
import Derived.Test.YtlmohkbimnhecaaGreatHof
import Derived.Test.YtlmohkbimnhecaaGreatQ4
import Derived.Test.YtlmohkbimnhecaaGreatQ2
import Derived.Test.YtlmohkbimnhecaaGreatQ3
import Derived.Test.YtlmohkbimnhecaaGreatQ5
namespace Go.Proofs.YtlmohkbimnhecaaGreat.B
open Go.RowKit Go.Proofs.YtlmohkbimnhecaaGreat.Q Go.Proofs.YtlmohkbimnhecaaGreatW.PrintWords Go.Proofs.YtlmohkbimnhecaaGreatW.PrintLast Go.Proofs.YtlmohkbimnhecaaGreatW.PrintMore
def seg (i:Int):Nat→List Int
 |0=>[]
 |d+1=>i::seg (i+1) d
theorem seg_length (d:Nat):∀ i,(seg i d).length=d:=by
 induction d with
 |zero=>intro i;rfl
 |succ d ih=>intro i;simp [seg,ih]
theorem mem_seg (d:Nat):∀ (i x:Int),x∈seg i d↔i≤x∧x<i+d:=by
 induction d with
 |zero=>
  intro i x
  simp only [seg,List.not_mem_nil,false_iff]
  omega
 |succ d ih=>
  intro i x
  simp only [seg,List.mem_cons,ih]
  omega
theorem chooseP_ev (p:Nat→Int→Option Bool) (q:Int→Bool) (d:Nat):∀ i:Int,(∀ x,i≤x→x<i+d→Ev (fun k=>p k x) (q x))→Ev (fun k=>chooseP (p k) d i) ((seg i d).filter q):=by
 induction d with
 |zero=>intro i h;exact evS _
 |succ d ih=>
  intro i h
  have e:=ih (i+1) (fun x h0 h1=>h x (by omega) (by omega))
  simp only [chooseP,seg,List.filter_cons]
  exact evB (h i (by omega) (by omega)) (evB e (evS _))
theorem filter_length_le_seg (q:Int→Bool) (i:Int) (d:Nat):((seg i d).filter q).length≤d:=by
 have:=List.length_filter_le q (seg i d)
 rw [seg_length] at this
 exact this
theorem bit01 (x:Int) (h0:0≤x) (h1:x<9223372036854775808):Go.bits .and .i64 x 1=x%2:=by
 have h:=bits_mask .i64 63 (by decide) (fun n h0 h1=>by rw [show (2:Int) ^ 63=9223372036854775808 by decide] at h1;rw [IntKind.wrap_i64];omega) 1 (by decide) x h0 (by rw [show (2:Int) ^ 63=9223372036854775808 by decide];omega)
 simpa using h
theorem shr_range (x e:Int) (h0:0≤x) (h1:x<9223372036854775808):0≤shr .i64 x e∧shr .i64 x e<9223372036854775808:=by
 unfold shr
 have hp:(0:Int)<2 ^ min e.toNat IntKind.i64.bits:=Int.pow_pos (by decide)
 refine ⟨Int.ediv_nonneg h0 (Int.le_of_lt hp),?_⟩
 have:=Int.ediv_le_self (2 ^ min e.toNat IntKind.i64.bits) h0
 omega
theorem u64_in (x:Int) (h0:0≤x) (h1:x<18446744073709551616):IntKind.u64.wrap x=x:=by
 simp [IntKind.wrap,IntKind.bits,IntKind.signed]
 omega
end Go.Proofs.YtlmohkbimnhecaaGreat.B
namespace Go.Proofs.YtlmohkbimnhecaaGreat.B
open Go.RowKit Go.Proofs.YtlmohkbimnhecaaGreat.Q Go.Proofs.YtlmohkbimnhecaaGreatW.PrintWords Go.Proofs.YtlmohkbimnhecaaGreatW.PrintLast Go.Proofs.YtlmohkbimnhecaaGreatW.PrintMore
theorem shl_one (e:Int) (h0:0≤e) (h1:e≤24):shl .i64 1 e=((2 ^ e.toNat:Nat):Int):=by
 have h:∀ m:Fin 25,shl .i64 1 ((m.val:Nat):Int)=((2 ^ m.val:Nat):Int):=by decide +kernel
 have:=h ⟨e.toNat,by omega⟩
 simp only [Int.toNat_of_nonneg h0] at this
 exact this
theorem or_nat (a b:Nat) (ha:a<2 ^ 62) (hb:b<2 ^ 62):Go.bits .or .i64 (a:Int) (b:Int)=((a|||b:Nat):Int):=
 (bits_nat .i64 62 (by decide) (fun n h0 h1=>by rw [show (2:Int) ^ 62=4611686018427387904 by decide] at h1;rw [IntKind.wrap_i64];omega) a b ha hb).2
theorem and_nat (a b:Nat) (ha:a<2 ^ 62) (hb:b<2 ^ 62):Go.bits .and .i64 (a:Int) (b:Int)=((a&&&b:Nat):Int):=
 (bits_nat .i64 62 (by decide) (fun n h0 h1=>by rw [show (2:Int) ^ 62=4611686018427387904 by decide] at h1;rw [IntKind.wrap_i64];omega) a b ha hb).1
theorem andNot_nat (a b:Nat) (ha:a<2 ^ 62) (hb:b<2 ^ 62):Go.bits .andNot .i64 (a:Int) (b:Int)=((a ^^^ (a&&&b):Nat):Int):=by
 have k62:(2:Nat) ^ 62=4611686018427387904:=by decide
 have k64:(2:Nat) ^ 64=18446744073709551616:=by decide
 show IntKind.i64.wrap ((BitVec.ofInt 64 (a:Int) &&& ~~~BitVec.ofInt 64 (b:Int)).toNat:Int)=_
 rw [BitVec.toNat_and,BitVec.toNat_not,BitVec.ofInt_natCast,BitVec.ofInt_natCast,BitVec.toNat_ofNat,BitVec.toNat_ofNat,Nat.mod_eq_of_lt (by omega),Nat.mod_eq_of_lt (by omega)]
 have e:a&&&(2 ^ 64-1-b)=a ^^^ (a&&&b):=by
  refine Nat.eq_of_testBit_eq (fun i=>?_)
  rw [show 2 ^ 64-1-b=2 ^ 64-(b+1) by omega,Nat.testBit_and,Nat.testBit_two_pow_sub_succ (by omega),Nat.testBit_xor,Nat.testBit_and]
  by_cases h:i<64
  ·simp only [h,decide_true,Bool.true_and]
   cases a.testBit i<;>cases b.testBit i<;>rfl
  ·have:a.testBit i=false:=Nat.testBit_lt_two_pow (Nat.lt_of_lt_of_le ha (Nat.pow_le_pow_right (by decide) (by omega)))
   simp [this]
 rw [e]
 have l:=Nat.xor_lt_two_pow ha (Nat.and_lt_two_pow a hb)
 rw [IntKind.wrap_i64]
 omega
theorem pow_le (e:Int) (m:Nat) (h1:e≤m):(2:Nat) ^ e.toNat≤2 ^ m:=Nat.pow_le_pow_right (by decide) (by omega)
theorem pow_pos' (e:Int):1≤(2:Nat) ^ e.toNat:=Nat.one_le_two_pow
end Go.Proofs.YtlmohkbimnhecaaGreat.B
namespace Go.Proofs.YtlmohkbimnhecaaGreat.B
open Go.RowKit Go.Proofs.YtlmohkbimnhecaaGreat.Q Go.Proofs.YtlmohkbimnhecaaGreatW.PrintWords Go.Proofs.YtlmohkbimnhecaaGreatW.PrintLast
theorem l01In_eq (x lo hi:Int):spec_l01In.f x lo hi=some (decide (lo≤x∧x≤hi)):=by
 unfold spec_l01In.f
 by_cases h:x≥lo
 ·rw [if_pos h]
  simp [show lo≤x from h]
 ·rw [if_neg h]
  simp [show ¬ lo≤x from h]
theorem within_eq (x lo hi:Int):impl_within.f x lo hi=some (decide (lo≤x∧x≤hi)):=by
 unfold impl_within.f
 by_cases h:lo≤x
 ·rw [if_pos h]
  simp [h]
 ·rw [if_neg h]
  simp [h]
end Go.Proofs.YtlmohkbimnhecaaGreat.B
namespace Go.Proofs.YtlmohkbimnhecaaGreat.B
open Go.RowKit Go.Proofs.YtlmohkbimnhecaaGreat.Q Go.Proofs.YtlmohkbimnhecaaGreatW.PrintWords Go.Proofs.YtlmohkbimnhecaaGreatW.PrintLast
theorem first_two (b c:Bool) (x y:Int):Ev (fun k=>impl_first.f k [⟨b,x⟩,⟨c,y⟩]) (if b=true then if c=true then 0 else y else x):=by
 unfold impl_first.f
 refine evSucc (fun k=>by rw [impl_first.l0]) ?_
 refine evT (by simp) (evT (by omega) (evT (by simp) ?_))
 cases b with
 |false=>exact evF (by simp [rd_T70]) (evS _)
 |true=>
  refine evT (by simp [rd_T70]) ?_
  rw [show wrap64 (0+1)=1 by decide +kernel]
  refine evSucc (fun k=>by rw [impl_first.l0]) ?_
  refine evT (by simp) (evT (by omega) (evT (by simp) ?_))
  cases c with
  |false=>exact evF (by simp [rd_T70]) (evS _)
  |true=>
   refine evT (by simp [rd_T70]) ?_
   rw [show wrap64 (1+1)=2 by decide +kernel]
   exact evE (r:=(0:Int)) (by simp) (evSucc (fun k=>by rw [impl_first.l0]) (evF (by simp) (evS _)))
theorem first_one (b:Bool) (x:Int):Ev (fun k=>impl_first.f k [⟨b,x⟩]) (if b=true then 0 else x):=by
 unfold impl_first.f
 refine evSucc (fun k=>by rw [impl_first.l0]) ?_
 refine evT (by simp) (evT (by omega) (evT (by simp) ?_))
 cases b with
 |false=>exact evF (by simp [rd_T70]) (evS _)
 |true=>
  refine evT (by simp [rd_T70]) ?_
  rw [show wrap64 (0+1)=1 by decide +kernel]
  exact evE (r:=(0:Int)) (by simp) (evSucc (fun k=>by rw [impl_first.l0]) (evF (by simp) (evS _)))
end Go.Proofs.YtlmohkbimnhecaaGreat.B
namespace Go.Proofs.YtlmohkbimnhecaaGreat.B
open Go.RowKit Go.Proofs.YtlmohkbimnhecaaGreat.Q Go.Proofs.YtlmohkbimnhecaaGreatW.PrintWords Go.Proofs.YtlmohkbimnhecaaGreatW.PrintLast Go.Proofs.YtlmohkbimnhecaaGreatW.PrintMore
theorem like_l (l:List Int) (hl:l.length≤1000) (d:Nat):∀ i:Int,0≤i→i+d=l.length→Ev (fun k=>laws_likeInts.l0 k l l i) true:=by
 induction d with
 |zero=>
  intro i h0 hd
  refine evSucc (fun k=>by rw [laws_likeInts.l0]) ?_
  exact evF (by omega) (evS _)
 |succ d ih=>
  intro i h0 hd
  refine evSucc (fun k=>by rw [laws_likeInts.l0]) ?_
  refine evT (by omega) (evT h0 (evT (by omega) (evT (by rfl) ?_)))
  rw [wrap_in (by omega) (by omega)]
  exact ih (i+1) (by omega) (by omega)
theorem like_same (l:List Int) (hl:l.length≤1000):Ev (fun k=>laws_likeInts.f k l l) true:=by
 unfold laws_likeInts.f
 exact evT (by rfl) (like_l l hl l.length 0 (by omega) (by omega))
end Go.Proofs.YtlmohkbimnhecaaGreat.B
