/-
  Whether there is a hex board: what program and reference come to; and the laws' own helpers at a board. No conditions beyond lengths.
-/
import Derived.Test.YtnecgdlhkbbpgaaQ17
import Derived.Test.YtnecgdlhkbbpgaaQ11
import Derived.Test.YtnecgdlhkbbpgaaQ3
import Derived.Test.YtnecgdlhkbbpgaaEvTo
import Derived.Test.YtnecgdlhkbbpgaaInEq
namespace Go.Proofs.Ytnecgdlhkbbpgaa.B
open Go.RowKit Go.Proofs.Ytnecgdlhkbbpgaa.Q Go.Proofs.YtnecgdlhkbbpgaaW.PrintWords Go.Proofs.YtnecgdlhkbbpgaaW.PrintLast

theorem szHex_small (a : Int) (l : List Int) (hl : l.length ≤ 1048576) : laws_szHex.f a l 1048576 = some (1048576 - (l.length : Int)) := by
  unfold laws_szHex.f laws_szInt64S.f
  rw [wrap_in (by omega) (by omega), if_neg (by omega)]
  simp only [Option.bind_some]
  rw [if_neg (by omega)]
theorem szHex_large (a : Int) (l : List Int) (hl : 1048576 < l.length) (hm : l.length ≤ 9223372036854775807) : laws_szHex.f a l 1048576 = some (-1) := by
  unfold laws_szHex.f laws_szInt64S.f
  rw [wrap_in (by omega) (by omega), if_pos (by omega)]
  simp
theorem toHex (a : Int) (l : List Int) (hl : l.length ≤ 1048576) : Ev (fun k => laws_toHex.f k a l) (a, l) := by
  unfold laws_toHex.f
  exact evB (toInts l hl) (evS _)
theorem eqHex (a : Int) (l : List Int) (hl : l.length ≤ 4000000000000000000) : Ev (fun k => laws_eqHex.f k a l a l) true := by
  unfold laws_eqHex.f
  exact evT (by rfl) (evB (eqInts l hl) (evT (by rfl) (evS _)))
/-- Is there a board? -/
def isHexB (a : Int) (l : List Int) : Bool := decide (1 ≤ a ∧ a ≤ 8) && decide ((l.length : Int) = wrap64 (a * a)) && l.all fun x => decide (0 ≤ x ∧ x ≤ 2)
theorem isHex_impl (a : Int) (l : List Int) : impl_IsHex.f a l = some (isHexB a l) := by
  unfold impl_IsHex.f impl_size_int64.f isHexB
  have hc : cf_IsHex.f l = some (!l.all fun x => decide (0 ≤ x ∧ x ≤ 2)) := anyF_all _ _ (fun x => by unfold impl_IsHex_1.f; rw [within_eq]; rfl) l
  simp only [within_eq, hc, Option.bind_some]
  by_cases h1 : 1 ≤ a ∧ a ≤ 8 <;> by_cases h2 : (l.length : Int) = wrap64 (a * a) <;> simp [h1, h2]
theorem hexCells_spec (a : Int) (l : List Int) (hl : l.length ≤ 4000000000000000000) (d : Nat) : ∀ i : Int, 0 ≤ i → i + d = l.length → Ev (fun k => spec_l06Is.l0 k i a l) ((l.drop i.toNat).all fun x => decide (0 ≤ x ∧ x ≤ 2)) := by
  induction d with
  | zero =>
    intro i h0 hd
    refine evSucc (fun k => by rw [spec_l06Is.l0]) ?_
    refine evF (by omega) (evE ?_ (evS _))
    rw [List.drop_eq_nil_of_le (by omega)]
    rfl
  | succ d ih =>
    intro i h0 hd
    refine evSucc (fun k => by rw [spec_l06Is.l0]) ?_
    refine evT (by omega) (evT h0 (evG (l01In_eq _ _ _) ?_))
    have hlt : i.toNat < l.length := by omega
    have e : rd l i = l[i.toNat] := by simp [rd, List.getD_eq_getElem?_getD, hlt]
    rw [List.drop_eq_getElem_cons hlt, List.all_cons, e]
    by_cases hx : 0 ≤ l[i.toNat] ∧ l[i.toNat] ≤ 2
    · refine evT (by simpa using hx) ?_
      rw [wrap_in (by omega) (by omega)]
      refine evE ?_ (ih (i + 1) (by omega) (by omega))
      rw [show (i + 1).toNat = i.toNat + 1 by omega]
      simp [hx]
    · refine evF (by simpa using hx) (evE ?_ (evS _))
      simp [hx]
theorem l06Is_spec (a : Int) (l : List Int) (hl : l.length ≤ 4000000000000000000) : Ev (fun k => spec_l06Is.f k a l) (isHexB a l) := by
  unfold spec_l06Is.f isHexB
  simp only [l01In_eq, Option.bind_some]
  by_cases h1 : 1 ≤ a ∧ a ≤ 8
  · refine evT (by simpa using h1) (evSucc (fun k => by rw [spec_l06Is.j0]) ?_)
    by_cases h2 : (l.length : Int) = wrap64 (a * a)
    · refine evF (by simpa using h2) (evE ?_ (hexCells_spec a l hl l.length 0 (by omega) (by omega)))
      simp [h1, h2]
    · refine evT (by simpa using h2) (evE ?_ (evS _))
      simp [h2]
  · refine evF (by simpa using h1) (evSucc (fun k => by rw [spec_l06Is.j0]) (evT (by rfl) (evE ?_ (evS _))))
    simp [h1]
theorem isHex_spec (a : Int) (l : List Int) (hl : l.length ≤ 4000000000000000000) : Ev (fun k => spec_IsHex.f k a l) (isHexB a l) := by
  unfold spec_IsHex.f
  exact evB (l06Is_spec a l hl) (evS _)
end Go.Proofs.Ytnecgdlhkbbpgaa.B
