/-
  The pure statement of the law FnExactWeightOf: program and reference tell the same weight and code, and the board stays as it was, whatever the board.
-/
import Derived.Test.YtjeiifiacjhfoaaQ20
import Derived.Test.YtjeiifiacjhfoaaBoardSame
import Derived.Test.YtjeiifiacjhfoaaBoardCount
import Derived.Test.YtjeiifiacjhfoaaBoardEv
namespace Go.Proofs.Ytjeiifiacjhfoaa.Pure
open Go.RowKit Go.Proofs.Ytjeiifiacjhfoaa.Q Go.Proofs.YtjeiifiacjhfoaaW.PrintWords Go.Proofs.YtjeiifiacjhfoaaW.PrintLast Go.Proofs.YtjeiifiacjhfoaaW.PrintMore Go.Proofs.Ytjeiifiacjhfoaa.B

def sumW (n : Int) (L : List Int) : Nat → Int → Int → Int
  | 0, _, a => a
  | d + 1, i, a => sumW n L d (i + 1) (wrap64 (a + shl .i64 1 (n - popI (rd L i))))
theorem line_facts (n : Int) (L : List Int) (h : boardB n L = true) (j : Int) (h0 : 0 ≤ j) (h1 : j < L.length) : 0 ≤ rd L j ∧ rd L j < 65536 ∧ 0 ≤ n - popI (rd L j) ∧ n - popI (rd L j) ≤ 16 := by
  obtain ⟨a, b, c⟩ := (boardB_iff n L).1 h
  obtain ⟨⟨c1, c2⟩, _⟩ := c j h0 h1
  have f := full_shl n a
  refine ⟨by omega, by omega, ?_⟩
  have hp := pop_lt n.toNat (rd L j).toNat (by omega) (by unfold full at c2; omega)
  unfold popI
  omega
theorem impl_w (n : Int) (L : List Int) (h : boardB n L = true) (d : Nat) : ∀ (i a : Int), 0 ≤ i → (L.length : Int) = i + d → Ev (fun k => impl_WeightOf.l0 k a L (L.length : Int) i n L) (sumW n L d i a, 0) := by
  have hb := ((boardB_iff n L).1 h).2.1
  induction d with
  | zero =>
    intro i a h0 h1
    refine evSucc (fun k => by rw [impl_WeightOf.l0]) ?_
    exact evF (by omega) (evS _)
  | succ d ih =>
    intro i a h0 h1
    obtain ⟨g0, g1, g2, g3⟩ := line_facts n L h i h0 (by omega)
    refine evSucc (fun k => by rw [impl_WeightOf.l0]) ?_
    rw [many_eq (rd L i) g0 (by omega)]
    refine evT (by omega) (evT h0 (evT (by omega) (evG rfl ?_)))
    rw [wrap_in (x := n - popI (rd L i)) (by omega) (by omega), wrap_in (x := i + 1) (by omega) (by omega)]
    exact evT g2 (ih (i + 1) _ (by omega) (by omega))
theorem spec_w (n : Int) (L : List Int) (h : boardB n L = true) (d : Nat) : ∀ (i a : Int), 0 ≤ i → (L.length : Int) = i + d → Ev (fun k => spec_l07Weight.l0 k a i n L) (sumW n L d i a) := by
  have hb := ((boardB_iff n L).1 h).2.1
  induction d with
  | zero =>
    intro i a h0 h1
    refine evSucc (fun k => by rw [spec_l07Weight.l0]) ?_
    exact evF (by omega) (evS _)
  | succ d ih =>
    intro i a h0 h1
    obtain ⟨g0, g1, g2, g3⟩ := line_facts n L h i h0 (by omega)
    refine evSucc (fun k => by rw [spec_l07Weight.l0]) ?_
    refine evT (by omega) (evT h0 (evB (ones_eq (rd L i) g0 (by omega)) ?_))
    rw [wrap_in (x := n - popI (rd L i)) (by omega) (by omega), wrap_in (x := i + 1) (by omega) (by omega), u64_in _ g2 (by omega)]
    exact evT g2 (ih (i + 1) _ (by omega) (by omega))
theorem both (n : Int) (L : List Int) (h : L.length ≤ 1048576) : ∃ r : Int × Int, Ev (fun k => spec_WeightOf.f k n L) r ∧ Ev (fun k => impl_WeightOf.f k n L) r := by
  unfold spec_WeightOf.f impl_WeightOf.f
  cases hb : boardB n L with
  | true =>
    refine ⟨(sumW n L L.length 0 0, 0), evB (hb ▸ board_spec n L (by omega)) (evT rfl (evB ?_ (evS _))), evB (hb ▸ board_impl n L (by omega)) (evT rfl (impl_w n L hb L.length 0 0 (by omega) (by omega)))⟩
    unfold spec_l07Weight.f
    exact spec_w n L hb L.length 0 0 (by omega) (by omega)
  | false => exact ⟨(0, 1), evB (hb ▸ board_spec n L (by omega)) (evF (by simp) (evS _)), evB (hb ▸ board_impl n L (by omega)) (evF (by simp) (evS _))⟩

theorem FnExactWeightOf (n : Int) (L : List Int) (_ : (Lit.int .i64 n).wf = true) (hm : L.length ≤ maxLen) (_ : ∀ x ∈ L, (Lit.int .i64 x).wf = true) : Ev (fun k => laws_FnExactWeightOf.f k n L) true := by
  unfold laws_FnExactWeightOf.f
  by_cases h : L.length ≤ 1048576
  · obtain ⟨r, hs, hi⟩ := both n L h
    rw [szB_ok n L h]
    refine evG rfl (evF (by omega) (evB (toB n L h) (evB hs (evB (toB n L h) (evB hi (evT rfl ?_))))))
    refine evSucc (fun k => by rw [laws_FnExactWeightOf.j0]) ?_
    exact evF (by simp) (evB (toB n L h) (evB (eqB n L h) (evT rfl (evS _))))
  · rw [szB_big n L hm (by omega)]
    exact evG rfl (evT (by omega) (evS _))
end Go.Proofs.Ytjeiifiacjhfoaa.Pure
