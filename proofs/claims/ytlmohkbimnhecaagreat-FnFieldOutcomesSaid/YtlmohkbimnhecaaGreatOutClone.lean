/-
  slices.Clone at []int64: the same list in memory of its own. Lists of less than 2^44 numbers.
-/
import Derived.Test.YtlmohkbimnhecaaGreatQ0
import Derived.Lib.SliceRun
namespace Go.Proofs.YtlmohkbimnhecaaGreat.Q
open Go.RowKit Go.Proofs.YtlmohkbimnhecaaGreatW.PrintWords Go.Proofs.YtlmohkbimnhecaaGreatW.PrintLast Go.Proofs.YtlmohkbimnhecaaGreatW.PrintMore
def slices_Clone_int64_int64.f (l0:List Int):Option (List Int):=if l0.length<17592186044416 then some l0 else none
set_option maxHeartbeats 8000000 in
set_option maxRecDepth 100000 in
theorem slices_Clone_int64_int64.calls (A0:Option Addr) (c0:Nat) (l0:List Int) (r:List Int) (w:World) (hr0:Kd.C (Kd.int .i64) w A0 l0.length l0) (hc0:l0.length≤c0) (h:slices_Clone_int64_int64.f l0=some r):
 Calls Tryz.prog 82 #[.slice A0 l0.length c0] w fun e w'=>∃ v0_:Value,e=.returned (v0_)∧Kd.R (Kd.int .i64) 2 w' w.heap.size (fun _=>True) v0_ r∧Below w.heap.size w w':=by
 have q22:∀ (w:World) (a:Option Addr) (n c n' c':Nat),(binOp .eql 28 (.slice a n c) (.slice none n' c')).run Tryz.prog w=.ok (.bool a.isNone) w:=fun w a n c n' c'=>Lib.run_eql_slice_nil w _ _ a n c n' c' Tryz.underlying28
 obtain ⟨LM,RR⟩:Aside0 (l0.length<17592186044416)∧Aside0 (l0=r):=by
  unfold slices_Clone_int64_int64.f at h
  split at h
  ·exact ⟨⟨by assumption⟩,⟨Option.some.inj h⟩⟩
  ·cases h
 clear h
 cases A0 with
 |none=>
  have hl:Aside0 (l0=[]):=⟨by
   rcases Nat.eq_zero_or_pos l0.length with h|h
   ·exact List.length_eq_zero_iff.1 h
   ·obtain ⟨ad,h2,_⟩:=hr0.2.2 h
    cases h2⟩
  clear hr0
  go_enter Tryz.func82,Tryz.ntmps82
  go_wp2
  go_ret
  exact ⟨_,rfl,by rw [← RR.out,hl.out];exact Kd.R_nil _ _ _ _ _,Below.refl _ _⟩
 |some a=>
  have HR0:=Aside0.mk hr0
  have HC0:=Aside0.mk hc0
  clear hr0 hc0
  have HB:=Aside0.mk (Below.refl w.heap.size w)
  obtain ⟨y1,hy1⟩:∃ y_:List Int,y_=(([]:List Int)):=⟨_,rfl⟩
  have N1:=Aside0.mk hy1
  clear hy1
  go_enter Tryz.func82,Tryz.ntmps82
  go_wp2_with (first|((with_reducible refine gate_dst (N:=5) rfl ?_);refine Kd.R_lit (Kd.int .i64) _ 2 ?hg (N:=5) ?hd (xs:=([]:List Int)) (inner:=[]) (ok:=fun _=>True) (okp:=fun _=>True) ?hr ?hp (fun _ hk=>hk) trivial (Below.refl _ _) (Nat.le_refl _) (by simp) ?_;(case hd=>rfl);(case hg=>rfl);(case hr=>first|(go_simp;done)|(go_simp;rfl));(case hp=>exact (Reps.none _ _));intro v510 w3 ho4 hb hg_ hnew_;clear hg_ hnew_;(first|rw [← N1.out] at ho4|(simp only [Int.reduceToNat] at ho4;rw [← N1.out] at ho4));have HO511:=Aside0.mk (Kd.R_lower ho4 (Nat.le_refl _));have HB1:=Aside0.mk hb;clear hb ho4 HB)|((with_reducible refine gate_builtin (b:=.append) (xs:=#[.tmp 5,.tmp 6]) rfl ?_);at_builtin;refine Kd.R_append_rows (Kd.int .i64) (w0:=w) w.heap.size rfl (.tmp 5) (.tmp 6) 28 2 (.int .i64 0) 8 rfl Tryz.underlying28 info2 rfl (by decide) (by omega) v510 y1 l0 _ _ _ (fun _=>True) (fun _=>False) rfl rfl ?aO ?aR (fun _ _ h=>h) (fun _ h=>h.elim) ?aF ?aB ?aS ?aL ?_;(case aR=>exact (Kd.C_below HR0.out HB1.out));(case aB=>exact HB1.out);(case aF=>exact (fun _ _=>trivial));(case aO=>exact HO511.out);(case aS=>exact HB1.out.size);(case aL=>have:=LM.out;have e:=N1.out;rw [e];simp;omega);intro v513 w5 ho hb hg hat;have HB2:=Aside0.mk hb;have HO2:=Aside0.mk ho;clear HB1 HO511 ho hb hg hat))
  go_ret
  exact ⟨_,rfl,by have:=HO2.out;rw [N1.out,List.nil_append,RR.out] at this;exact this,HB2.out⟩
end Go.Proofs.YtlmohkbimnhecaaGreat.Q
