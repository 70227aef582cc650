/-
  The pure statement of the law FnExactLinesThrough: program and reference tell the same lines and code, the board stays as it was, and the marks hold, whatever the arguments are.
-/
import Derived.Test.YtjeiifiacjhfoaaQ35
import Derived.Test.YtjeiifiacjhfoaaBoardSame
import Derived.Test.YtjeiifiacjhfoaaBoardEv
import Derived.Test.YtjeiifiacjhfoaaFirstTwo
namespace Go.Proofs.Ytjeiifiacjhfoaa.Pure
open Go.RowKit Go.Proofs.Ytjeiifiacjhfoaa.Q Go.Proofs.YtjeiifiacjhfoaaW.PrintWords Go.Proofs.YtjeiifiacjhfoaaW.PrintLast Go.Proofs.YtjeiifiacjhfoaaW.PrintMore Go.Proofs.Ytjeiifiacjhfoaa.B

def dgt (q x : Int) : Int := Go.bits .and .i64 (shr .i64 x q) 1
theorem del_eq (q : Int) (hq : 0 ≤ q) (l : List Int) : delP (linesP q) l = some (l.filter fun x => !(dgt q x == 0)) := by
  induction l with
  | nil => rfl
  | cons x xs ih =>
    simp only [delP, ih]
    unfold linesP
    rw [if_pos hq, List.filter_cons]
    simp only [Option.bind_some]
    rw [show Go.bits .and .i64 (shr .i64 x q) 1 = dgt q x from rfl]
    cases (dgt q x == 0) <;> simp
theorem spec_l (n q : Int) (L : List Int) (hb : boardB n L = true) (hq : 0 ≤ q ∧ q ≤ 15) (d : Nat) : ∀ (i : Int) (acc : List Int), 0 ≤ i → (L.length : Int) = i + d → acc.length ≤ i →
    Ev (fun k => spec_LinesThrough.l0 k q acc i n L) (acc ++ (L.drop i.toNat).filter (fun x => !(dgt q x == 0)), 0) := by
  obtain ⟨a, b, c⟩ := (boardB_iff n L).1 hb
  have f := full_shl n a
  induction d with
  | zero =>
    intro i acc h0 h1 h2
    refine evSucc (fun k => by rw [spec_LinesThrough.l0]) ?_
    refine evF (by omega) (evE ?_ (evS _))
    rw [List.drop_eq_nil_of_le (by omega)]
    simp
  | succ d ih =>
    intro i acc h0 h1 h2
    refine evSucc (fun k => by rw [spec_LinesThrough.l0]) ?_
    have hi : i.toNat < L.length := by omega
    have hr : rd L i = L[i.toNat] := by simp [rd, List.getD_eq_getElem?_getD, hi]
    have g := c i h0 (by omega)
    have hd := dig01 (rd L i) q (by omega) (by omega)
    rw [u64_in q hq.1 (by omega), wrap_in (x := i + 1) (by omega) (by omega)]
    refine evT (by omega) (evT h0 (evT hq.1 ?_))
    rw [show Go.bits .and .i64 (shr .i64 (rd L i) q) 1 = dgt q (rd L i) from rfl] at hd ⊢
    rw [List.drop_eq_getElem_cons hi, List.filter_cons, ← hr]
    have hs : (i + 1).toNat = i.toNat + 1 := by omega
    rcases hd with e | e
    · refine evF (by omega) (evE ?_ (ih (i + 1) acc (by omega) (by omega) (by omega)))
      rw [hs, e]
      simp
    · refine evT e (evT (by omega) (evE ?_ (ih (i + 1) (acc ++ [rd L i]) (by omega) (by omega) (by simp; omega))))
      rw [hs, e]
      simp
theorem both (n : Int) (L : List Int) (q : Int) (h : L.length ≤ 1048576) : ∃ (l : List Int) (c : Int), l.length ≤ 1048576 ∧ Ev (fun k => spec_LinesThrough.f k n L q) (l, c) ∧ Ev (fun k => impl_LinesThrough.f k n L q) (l, c) := by
  unfold spec_LinesThrough.f impl_LinesThrough.f
  rw [within_eq, l01In_eq]
  cases hb : boardB n L with
  | true =>
    obtain ⟨a, b, -⟩ := (boardB_iff n L).1 hb
    rw [wrap_in (x := n - 1) (by omega) (by omega)]
    by_cases hq : 0 ≤ q ∧ q ≤ n - 1
    · rw [decide_eq_true hq]
      refine ⟨L.filter fun x => !(dgt q x == 0), 0, Nat.le_trans (List.length_filter_le _ _) h, evB (hb ▸ board_spec n L (by omega)) (evT rfl (evG rfl (evT rfl ?_))), evB (hb ▸ board_impl n L (by omega)) (evG rfl (evB (first_two _ _ _ _) (evT (by simp) ?_)))⟩
      · have := spec_l n q L hb (by omega) L.length 0 [] (by omega) (by omega) (by simp)
        simpa using this
      · refine evG (a := L) (by unfold slices_Clone_int64_int64.f; rw [if_pos (by omega)]) (evG (a := L.filter fun x => !(dgt q x == 0)) (by unfold del_LinesThrough.f; exact del_eq q hq.1 L) (evS _))
    · rw [decide_eq_false hq]
      exact ⟨[], 2, by simp, evB (hb ▸ board_spec n L (by omega)) (evT rfl (evG rfl (evF (by simp) (evS _)))), evB (hb ▸ board_impl n L (by omega)) (evG rfl (evB (first_two _ _ _ _) (evF (by simp) (evE (by simp) (evS _)))))⟩
  | false =>
    exact ⟨[], 1, by simp, evB (hb ▸ board_spec n L (by omega)) (evF (by simp) (evS _)), evB (hb ▸ board_impl n L (by omega)) (evG rfl (evB (first_two _ _ _ _) (evF (by simp) (evE (by simp) (evS _)))))⟩
theorem markB (n : Int) (L : List Int) (h : L.length ≤ 1048576) : Ev (fun k => laws_markBoard.f k n L 1) (1 + (L.length : Int), marks 1 L.length) := by
  unfold laws_markBoard.f
  exact evB (markInts L 1 (by omega) (by omega)) (evS _)

theorem FnExactLinesThrough (n : Int) (L : List Int) (q : Int) (_ : (Lit.int .i64 n).wf = true) (hm : L.length ≤ maxLen) (_ : ∀ x ∈ L, (Lit.int .i64 x).wf = true) (_ : (Lit.int .i64 q).wf = true) : Ev (fun k => laws_FnExactLinesThrough.f k n L q) true := by
  unfold laws_FnExactLinesThrough.f
  by_cases h : L.length ≤ 1048576
  · obtain ⟨l, c, hl, hs, hi⟩ := both n L q h
    rw [szB_ok n L h]
    refine evG rfl (evF (by omega) (evB (toB n L h) (evB hs (evB (toB n L h) (evB hi (evB (eqInts l (by omega)) (evT rfl ?_)))))))
    refine evSucc (fun k => by rw [laws_FnExactLinesThrough.j0]) ?_
    refine evF (by simp) (evB (toB n L h) (evB (eqB n L h) (evT rfl (evB (markB n L h) (evF (by omega) (evB (eqInts l (by omega)) (evT rfl ?_)))))))
    refine evSucc (fun k => by rw [laws_FnExactLinesThrough.j1]) ?_
    refine evF (by simp) (evB (markInts l 1 (by omega) (by omega)) (evB (heldInts l.length 1 (by omega) (by omega)) (evF (by omega) (evT (by rfl) ?_))))
    refine evB (toB n L h) (evB hi (evB (eqInts l (by omega)) (evT rfl ?_)))
    refine evSucc (fun k => by rw [laws_FnExactLinesThrough.j2]) ?_
    exact evF (by simp) (evB (heldInts l.length 1 (by omega) (by omega)) (evF (by omega) (evT (by rfl) (evS _))))
  · rw [szB_big n L hm (by omega)]
    exact evG rfl (evT (by omega) (evS _))
end Go.Proofs.Ytjeiifiacjhfoaa.Pure
