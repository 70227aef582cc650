/-
  The pure statement of the law FnExactUnionOf: program and reference tell the same field and code, whatever the two fields are.
-/
import Derived.Test.YtimoadhkkbedhaaQ14
import Derived.Test.YtimoadhkkbedhaaFirstTwo
import Derived.Test.YtimoadhkkbedhaaFieldSame
namespace Go.Proofs.Ytimoadhkkbedhaa.Pure
open Go.RowKit Go.Proofs.Ytimoadhkkbedhaa.Q Go.Proofs.YtimoadhkkbedhaaW.PrintWords Go.Proofs.YtimoadhkkbedhaaW.PrintLast Go.Proofs.YtimoadhkkbedhaaW.PrintMore Go.Proofs.Ytimoadhkkbedhaa.B

def innU (n gL j : Int) : Nat → Int → Int → Int
  | 0, _, a => a
  | d + 1, i, a => innU n gL j d (i + 1) (if jn gL i j = true then Go.bits .or .i64 a (shl .i64 1 (trI (n + j) + n + i)) else a)
def outU (n gL : Int) : Nat → Int → Int → Int
  | 0, _, a => a
  | d + 1, j, a => outU n gL d (j + 1) (innU n gL j j.toNat 0 a)
section
variable (n m gL gR gB : Int)
theorem in_impl (x148000 x148002 x148003 j : Int) (hn : 0 ≤ n ∧ n ≤ 8) (hj : 0 ≤ j ∧ j < 8) (r : Int → Int × Int × Int × Int × Int)
    (hk : ∀ a, Ev (fun k => impl_UnionOf.l0 k n m (wrap64 (j + 1)) m gL gR gB x148000 a x148002 x148003) (r a)) (d : Nat) :
    ∀ i a : Int, 0 ≤ i → j = i + d → Ev (fun k => impl_UnionOf.l1 k n j m j j i m gL gR gB x148000 a x148002 x148003) (r (innU n gL j d i a)) := by
  induction d with
  | zero =>
    intro i a h0 h1
    refine evSucc (fun k => by rw [impl_UnionOf.l1]) ?_
    exact evF (by omega) (hk a)
  | succ d ih =>
    intro i a h0 h1
    obtain ⟨t0, t1, t2⟩ := trI_range (n + j) (by omega) (by omega)
    refine evSucc (fun k => by rw [impl_UnionOf.l1]) ?_
    rw [joins_impl m gL gR gB i j (by omega) (by omega) (by omega)]
    refine evT (by omega) (evG rfl ?_)
    rw [wrap_in (x := i + 1) (by omega) (by omega)]
    simp only [innU]
    by_cases c : jn gL i j = true
    · rw [if_pos c]
      refine evT c (evG (a := trI (n + j)) (by unfold impl_pairs.f; rw [wrap_in (x := n + j) (by omega) (by omega)]; rfl) ?_)
      rw [wrap_in (x := trI (n + j) + n) (by omega) (by omega), wrap_in (x := trI (n + j) + n + i) (by omega) (by omega)]
      exact evT (by omega) (ih (i + 1) _ (by omega) (by omega))
    · rw [if_neg c]
      exact evF c (ih (i + 1) _ (by omega) (by omega))
theorem out_impl (x148000 x148002 x148003 : Int) (hn : 0 ≤ n ∧ n ≤ 8) (hm : m ≤ 8) (d : Nat) :
    ∀ j a : Int, 0 ≤ j → m = j + d → Ev (fun k => impl_UnionOf.l0 k n m j m gL gR gB x148000 a x148002 x148003) (x148000, outU n gL d j a, x148002, x148003, 0) := by
  induction d with
  | zero =>
    intro j a h0 h1
    refine evSucc (fun k => by rw [impl_UnionOf.l0]) ?_
    exact evF (by omega) (evS _)
  | succ d ih =>
    intro j a h0 h1
    refine evSucc (fun k => by rw [impl_UnionOf.l0]) ?_
    refine evT (by omega) ?_
    simp only [outU]
    refine in_impl n m gL gR gB x148000 x148002 x148003 j hn (by omega) (fun a => (x148000, outU n gL d (j + 1) a, x148002, x148003, 0)) (fun a => ?_) j.toNat 0 a (by omega) (by omega)
    rw [wrap_in (x := j + 1) (by omega) (by omega)]
    exact ih (j + 1) a (by omega) (by omega)
theorem in_spec (fL fR fB x111000 x111002 x111003 j : Int) (hn : 0 ≤ n ∧ n ≤ 8) (hj : 0 ≤ j ∧ j < 8) (r : Int → Int × Int × Int × Int)
    (hk : ∀ a, Ev (fun k => spec_l05Union.l0 k (wrap64 (j + 1)) n fL fR fB m gL gR gB x111000 a x111002 x111003) (r a)) (d : Nat) :
    ∀ i a : Int, 0 ≤ i → j = i + d → Ev (fun k => spec_l05Union.l1 k j i n fL fR fB m gL gR gB x111000 a x111002 x111003) (r (innU n gL j d i a)) := by
  induction d with
  | zero =>
    intro i a h0 h1
    refine evSucc (fun k => by rw [spec_l05Union.l1]) ?_
    exact evF (by omega) (hk a)
  | succ d ih =>
    intro i a h0 h1
    obtain ⟨t0, t1, t2⟩ := trI_range (n + j) (by omega) (by omega)
    refine evSucc (fun k => by rw [spec_l05Union.l1]) ?_
    rw [joins_spec m gL gR gB i j (by omega) (by omega)]
    refine evT (by omega) (evG rfl ?_)
    rw [wrap_in (x := i + 1) (by omega) (by omega), wrap_in (x := j + n) (by omega) (by omega), show j + n = n + j by omega, show wrap64 (Int.tdiv (wrap64 ((n + j) * (wrap64 (n + j - 1)))) 2) = trI (n + j) from rfl]
    rw [wrap_in (x := trI (n + j) + i) (by omega) (by omega), wrap_in (x := trI (n + j) + i + n) (by omega) (by omega), u64_at _ (by omega) (by omega), show trI (n + j) + i + n = trI (n + j) + n + i by omega]
    simp only [innU]
    by_cases c : jn gL i j = true
    · rw [if_pos c]
      exact evT c (evT (by omega) (ih (i + 1) _ (by omega) (by omega)))
    · rw [if_neg c]
      exact evF c (ih (i + 1) _ (by omega) (by omega))
theorem out_spec (fL fR fB x111000 x111002 x111003 : Int) (hn : 0 ≤ n ∧ n ≤ 8) (hm : m ≤ 8) (d : Nat) :
    ∀ j a : Int, 0 ≤ j → m = j + d → Ev (fun k => spec_l05Union.l0 k j n fL fR fB m gL gR gB x111000 a x111002 x111003) (x111000, outU n gL d j a, x111002, x111003) := by
  induction d with
  | zero =>
    intro j a h0 h1
    refine evSucc (fun k => by rw [spec_l05Union.l0]) ?_
    exact evF (by omega) (evS _)
  | succ d ih =>
    intro j a h0 h1
    refine evSucc (fun k => by rw [spec_l05Union.l0]) ?_
    refine evT (by omega) ?_
    simp only [outU]
    refine in_spec n m gL gR gB fL fR fB x111000 x111002 x111003 j hn (by omega) (fun a => (x111000, outU n gL d (j + 1) a, x111002, x111003)) (fun a => ?_) j.toNat 0 a (by omega) (by omega)
    rw [wrap_in (x := j + 1) (by omega) (by omega)]
    exact ih (j + 1) a (by omega) (by omega)
end
theorem both (n fL fR fB m gL gR gB : Int) : ∃ r : Int × Int × Int × Int × Int, Ev (fun k => spec_UnionOf.f k n fL fR fB m gL gR gB) r ∧ Ev (fun k => impl_UnionOf.f k n fL fR fB m gL gR gB) r := by
  unfold spec_UnionOf.f impl_UnionOf.f
  rw [isField_same, isField_same]
  obtain ⟨b, hb⟩ := field_total n fL fR fB
  obtain ⟨c, hc⟩ := field_total m gL gR gB
  rw [hb, hc]
  cases b with
  | false =>
    refine ⟨(0, 0, 0, 0, 1), evG rfl (evF (by simp) ?_), evG rfl (evF (by simp) (evB (first_two _ _ _ _) ?_))⟩
    · refine evSucc (fun k => by rw [spec_UnionOf.j0]) ?_
      exact evT rfl (evS _)
    · refine evSucc (fun k => by rw [impl_UnionOf.j0]) ?_
      exact evF (by simp) (evE (by simp) (evS _))
  | true =>
    obtain ⟨p0, p1⟩ := field_facts n fL fR fB hb
    cases c with
    | false =>
      refine ⟨(0, 0, 0, 0, 1), evG rfl (evT rfl (evG rfl ?_)), evG rfl (evT rfl (evG rfl (evB (first_two _ _ _ _) ?_)))⟩
      · refine evSucc (fun k => by rw [spec_UnionOf.j0]) ?_
        exact evT rfl (evS _)
      · refine evSucc (fun k => by rw [impl_UnionOf.j0]) ?_
        exact evF (by simp) (evE (by simp) (evS _))
    | true =>
      obtain ⟨q0, q1⟩ := field_facts m gL gR gB hc
      have hw : wrap64 (n + m) = n + m := wrap_in (by omega) (by omega)
      by_cases e : n + m ≤ 8
      · refine ⟨(n + m, outU n gL (m - 1).toNat 1 fL, Go.bits .or .i64 fR (shl .i64 gR n), Go.bits .or .i64 fB (shl .i64 gB n), 0), evG rfl (evT rfl (evG rfl ?_)), evG rfl (evT rfl (evG rfl (evB (first_two _ _ _ _) ?_)))⟩
        · refine evSucc (fun k => by rw [spec_UnionOf.j0]) ?_
          rw [hw]
          refine evF (by simp) (evF (by omega) (evB (a := (n + m, outU n gL (m - 1).toNat 1 fL, Go.bits .or .i64 fR (shl .i64 gR n), Go.bits .or .i64 fB (shl .i64 gB n))) ?_ (evS _)))
          unfold spec_l05Union.f
          rw [u64_at n (by omega) (by omega), hw]
          exact evT (by omega) (out_spec n m gL gR gB fL fR fB _ _ _ (by omega) (by omega) (m - 1).toNat 1 fL (by omega) (by omega))
        · refine evSucc (fun k => by rw [impl_UnionOf.j0]) ?_
          rw [hw]
          refine evT (by simp [e]) (evT (by omega) ?_)
          refine evE ?_ (out_impl n m gL gR gB _ _ _ (by omega) (by omega) m.toNat 0 fL (by omega) (by omega))
          rw [show m.toNat = (m - 1).toNat + 1 by omega]
          rfl
      · refine ⟨(0, 0, 0, 0, 3), evG rfl (evT rfl (evG rfl ?_)), evG rfl (evT rfl (evG rfl (evB (first_two _ _ _ _) ?_)))⟩
        · refine evSucc (fun k => by rw [spec_UnionOf.j0]) ?_
          rw [hw]
          exact evF (by simp) (evT (by omega) (evS _))
        · refine evSucc (fun k => by rw [impl_UnionOf.j0]) ?_
          rw [hw]
          exact evF (by simp [e]) (evE (by simp [e]) (evS _))

theorem FnExactUnionOf (n fL fR fB m gL gR gB : Int) (_ : (Lit.int .i64 n).wf = true) (_ : (Lit.int .i64 fL).wf = true) (_ : (Lit.int .i64 fR).wf = true) (_ : (Lit.int .i64 fB).wf = true) (_ : (Lit.int .i64 m).wf = true) (_ : (Lit.int .i64 gL).wf = true) (_ : (Lit.int .i64 gR).wf = true) (_ : (Lit.int .i64 gB).wf = true) : Ev (fun k => laws_FnExactUnionOf.f k n fL fR fB m gL gR gB) true := by
  unfold laws_FnExactUnionOf.f
  obtain ⟨⟨r1, r2, r3, r4, r5⟩, hs, hi⟩ := both n fL fR fB m gL gR gB
  refine evG (by unfold laws_toField.f; rfl) (evG (by unfold laws_toField.f; rfl) (evB hs (evG (by unfold laws_toField.f; rfl) (evG (by unfold laws_toField.f; rfl) (evB hi (evG (a := true) (by unfold laws_eqField.f; simp) (evT rfl (evT rfl (evS _)))))))))
end Go.Proofs.Ytimoadhkkbedhaa.Pure
