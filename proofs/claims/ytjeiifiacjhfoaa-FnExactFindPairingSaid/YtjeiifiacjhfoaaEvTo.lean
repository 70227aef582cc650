/-
  Plain lemmas: the laws' copy of a list is the list; and what the search for an element comes to. Lists of at most 2^20 numbers.
-/
import Derived.Test.YtjeiifiacjhfoaaQ1
import Derived.Test.YtjeiifiacjhfoaaEvBase
namespace Go.Proofs.Ytjeiifiacjhfoaa.B
open Go.RowKit Go.Proofs.Ytjeiifiacjhfoaa.Q Go.Proofs.YtjeiifiacjhfoaaW.PrintWords Go.Proofs.YtjeiifiacjhfoaaW.PrintLast

theorem toInts_l (q : List Int) : ∀ (p : List Int) (i : Int), i = p.length → p.length + q.length ≤ 4000000000000000000 →
    Ev (fun k => laws_toInt64S.l0 k (p ++ q) (p ++ List.replicate q.length 0) i) (p ++ q) := by
  induction q with
  | nil =>
    intro p i hi hl
    refine evSucc (fun k => by rw [laws_toInt64S.l0]) ?_
    refine evF (by simp; omega) ?_
    exact evE (by simp) (evS _)
  | cons x q ih =>
    intro p i hi hl
    simp only [List.length_cons] at hl
    refine evSucc (fun k => by rw [laws_toInt64S.l0]) ?_
    refine evT (by simp only [List.length_append, List.length_cons]; omega) (evT (by omega) (evT (by simp only [List.length_append, List.length_replicate, List.length_cons]; omega) ?_))
    rw [wrap_in (by omega) (by omega)]
    have e1 : rd (p ++ x :: q) i = x := by
      unfold rd
      rw [show i.toNat = p.length by omega]
      simp [List.getD_eq_getElem?_getD]
    have e2 : (p ++ List.replicate (q.length + 1) 0).set i.toNat x = (p ++ [x]) ++ List.replicate q.length 0 := by
      rw [show i.toNat = p.length by omega, List.replicate_succ, set_mid]
      simp
    rw [List.length_cons, e1, e2]
    have := ih (p ++ [x]) (i + 1) (by simp; omega) (by simp; omega)
    simpa using this
theorem toInts (l : List Int) (hl : l.length ≤ 1048576) : Ev (fun k => laws_toInt64S.f k l) l := by
  unfold laws_toInt64S.f
  refine evT (by omega) (evT (by omega) ?_)
  have := toInts_l l [] 0 rfl (by simp; omega)
  simpa using this
theorem rd_mem (l : List Int) (i : Int) (h0 : 0 ≤ i) (h1 : i < l.length) : rd l i ∈ l := by
  unfold rd
  rw [List.getD_eq_getElem?_getD, List.getElem?_eq_getElem (by omega)]
  exact List.getElem_mem _
end Go.Proofs.Ytjeiifiacjhfoaa.B
