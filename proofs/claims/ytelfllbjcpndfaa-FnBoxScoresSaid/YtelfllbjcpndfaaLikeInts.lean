/-
  The laws' own helpers on lists of numbers: a list is like itself, and has what is in it. Lists of at most 1000 numbers.
-/
import Derived.Test.YtelfllbjcpndfaaQ2
import Derived.Test.YtelfllbjcpndfaaQ3
import Derived.Test.YtelfllbjcpndfaaHof
namespace Go.Proofs.Ytelfllbjcpndfaa.B
open Go.RowKit Go.Proofs.Ytelfllbjcpndfaa.Q Go.Proofs.YtelfllbjcpndfaaW.PrintWords Go.Proofs.YtelfllbjcpndfaaW.PrintLast Go.Proofs.YtelfllbjcpndfaaW.PrintMore

theorem like_l (l : List Int) (hl : l.length ≤ 1000) (d : Nat) : ∀ i : Int, 0 ≤ i → i + d = l.length → Ev (fun k => laws_likeInts.l0 k l l i) true := by
  induction d with
  | zero =>
    intro i h0 hd
    refine evSucc (fun k => by rw [laws_likeInts.l0]) ?_
    exact evF (by omega) (evS _)
  | succ d ih =>
    intro i h0 hd
    refine evSucc (fun k => by rw [laws_likeInts.l0]) ?_
    refine evT (by omega) (evT h0 (evT (by omega) (evT (by rfl) ?_)))
    rw [wrap_in (by omega) (by omega)]
    exact ih (i + 1) (by omega) (by omega)
theorem like_same (l : List Int) (hl : l.length ≤ 1000) : Ev (fun k => laws_likeInts.f k l l) true := by
  unfold laws_likeInts.f
  exact evT (by rfl) (like_l l hl l.length 0 (by omega) (by omega))
theorem has_l (l : List Int) (x : Int) (hl : l.length ≤ 1000) (d : Nat) : ∀ i : Int, 0 ≤ i → (l.length : Int) = i + d → x ∈ l.drop i.toNat → Ev (fun k => laws_hasInt.l0 k l x i) true := by
  induction d with
  | zero =>
    intro i h0 h1 hx
    rw [List.drop_eq_nil_of_le (by omega)] at hx
    cases hx
  | succ d ih =>
    intro i h0 h1 hx
    have hi : i.toNat < l.length := by omega
    have hr : rd l i = l[i.toNat] := by simp [rd, List.getD_eq_getElem?_getD, hi]
    refine evSucc (fun k => by rw [laws_hasInt.l0]) (evT (by omega) (evT h0 ?_))
    by_cases c : rd l i = x
    · exact evT c (evS _)
    · refine evF c ?_
      rw [wrap_in (by omega) (by omega)]
      refine ih (i + 1) (by omega) (by omega) ?_
      rw [List.drop_eq_getElem_cons hi, List.mem_cons] at hx
      rw [show (i + 1).toNat = i.toNat + 1 by omega]
      exact hx.resolve_left (fun e => c (by rw [hr, e]))
theorem has_yes (l : List Int) (x : Int) (hl : l.length ≤ 1000) (hx : x ∈ l) : Ev (fun k => laws_hasInt.f k l x) true := by
  unfold laws_hasInt.f
  exact has_l l x hl l.length 0 (by omega) (by omega) (by simpa using hx)
end Go.Proofs.Ytelfllbjcpndfaa.B
