/-
  The first line that is in a set, plainly; the program's function. Boards alone.
-/
import Derived.Test.YtjeiifiacjhfoaaQ8
import Derived.Test.YtjeiifiacjhfoaaBoardSame
namespace Go.Proofs.Ytjeiifiacjhfoaa.B
open Go.RowKit Go.Proofs.Ytjeiifiacjhfoaa.Q Go.Proofs.YtjeiifiacjhfoaaW.PrintWords Go.Proofs.YtjeiifiacjhfoaaW.PrintLast Go.Proofs.YtjeiifiacjhfoaaW.PrintMore

/-- The first line that is in a set, 0 for none. -/
def fillF (L : List Int) (s : Int) : Nat → Int → Int
  | 0, _ => 0
  | d + 1, i => if Go.bits .and .i64 (rd L i) s = rd L i then rd L i else fillF L s d (i + 1)
theorem andNot_test (x s : Int) (h0 : 0 ≤ x) (h1 : x ≤ 65535) (h2 : 0 ≤ s) (h3 : s ≤ 65535) : Go.bits .andNot .i64 x s = 0 ↔ Go.bits .and .i64 x s = x := by
  obtain ⟨x, rfl⟩ := Int.eq_ofNat_of_zero_le h0
  obtain ⟨s, rfl⟩ := Int.eq_ofNat_of_zero_le h2
  have k62 : (2 : Nat) ^ 62 = 4611686018427387904 := by decide
  exact andNot_zero x s (by omega) (by omega)
theorem fill_loop (n : Int) (L : List Int) (s : Int) (hb : boardB n L = true) (h2 : 0 ≤ s) (h3 : s ≤ 65535) (d : Nat) : ∀ i : Int, 0 ≤ i → (L.length : Int) = i + d → Ev (fun k => impl_Board_filled.l0 k s L (L.length : Int) i) (fillF L s d i) := by
  obtain ⟨b1, b2, b3⟩ := (boardB_iff n L).1 hb
  have f := full_shl n b1
  induction d with
  | zero =>
    intro i h0 h1
    refine evSucc (fun k => by rw [impl_Board_filled.l0]) ?_
    exact evF (by omega) (evS _)
  | succ d ih =>
    intro i h0 h1
    refine evSucc (fun k => by rw [impl_Board_filled.l0]) ?_
    have g := b3 i h0 (by omega)
    have t := andNot_test (rd L i) s (by omega) (by omega) h2 h3
    refine evT (by omega) (evT h0 (evT (by omega) ?_))
    simp only [fillF]
    by_cases c : Go.bits .and .i64 (rd L i) s = rd L i
    · rw [if_pos c]
      exact evT (t.2 c) (evS _)
    · rw [if_neg c, wrap_in (x := i + 1) (by omega) (by omega)]
      exact evF (fun e => c (t.1 e)) (ih (i + 1) (by omega) (by omega))
theorem filled_impl (n : Int) (L : List Int) (s : Int) (hb : boardB n L = true) (h2 : 0 ≤ s) (h3 : s ≤ 65535) : Ev (fun k => impl_Board_filled.f k n L s) (fillF L s L.length 0) := by
  unfold impl_Board_filled.f
  exact fill_loop n L s hb h2 h3 L.length 0 (by omega) (by omega)
end Go.Proofs.Ytjeiifiacjhfoaa.B
