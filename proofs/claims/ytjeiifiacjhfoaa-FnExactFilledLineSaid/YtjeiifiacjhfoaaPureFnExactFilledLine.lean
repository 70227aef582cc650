/-
  The pure statement of the law FnExactFilledLine: program and reference tell the same player, line and code, and the board stays as it was, whatever the arguments are.
-/
import Derived.Test.YtjeiifiacjhfoaaQ24
import Derived.Test.YtjeiifiacjhfoaaBoardSets
import Derived.Test.YtjeiifiacjhfoaaBoardEv
import Derived.Test.YtjeiifiacjhfoaaFilled
namespace Go.Proofs.Ytjeiifiacjhfoaa.Pure
open Go.RowKit Go.Proofs.Ytjeiifiacjhfoaa.Q Go.Proofs.YtjeiifiacjhfoaaW.PrintWords Go.Proofs.YtjeiifiacjhfoaaW.PrintLast Go.Proofs.YtjeiifiacjhfoaaW.PrintMore Go.Proofs.Ytjeiifiacjhfoaa.B

def twoF (L : List Int) (a b : Int) : Int × Int × Int :=
  if fillF L a L.length 0 = 0 then if fillF L b L.length 0 = 0 then (0, 0, 4) else (1, fillF L b L.length 0, 0) else (0, fillF L a L.length 0, 0)
theorem spec_in (n : Int) (L : List Int) (p : Int) (s : Int) (hb : boardB n L = true) (x22 : List Int) (x23 x24 : Int) (r : Int × Int × Int)
    (hk : Ev (fun k => spec_FilledLine.l0 k x22 x23 (wrap64 (x24 + 1)) n L) r) (d : Nat) :
    ∀ i : Int, 0 ≤ i → (L.length : Int) = i + d → Ev (fun k => spec_FilledLine.l1 k p s i x22 x23 x24 n L) (if fillF L s d i = 0 then r else (p, fillF L s d i, 0)) := by
  obtain ⟨b1, b2, b3⟩ := (boardB_iff n L).1 hb
  induction d with
  | zero =>
    intro i h0 h1
    refine evSucc (fun k => by rw [spec_FilledLine.l1]) ?_
    exact evF (by omega) hk
  | succ d ih =>
    intro i h0 h1
    have g := b3 i h0 (by omega)
    refine evSucc (fun k => by rw [spec_FilledLine.l1]) ?_
    refine evT (by omega) (evT h0 ?_)
    by_cases c : Go.bits .and .i64 (rd L i) s = rd L i
    · have e : fillF L s (d + 1) i = rd L i := by simp only [fillF]; rw [if_pos c]
      refine evT c (evE ?_ (evS _))
      simp only [e]
      rw [if_neg (by omega)]
    · have e : fillF L s (d + 1) i = fillF L s d (i + 1) := by simp only [fillF]; rw [if_neg c]
      rw [wrap_in (x := i + 1) (by omega) (by omega)]
      refine evF c (evE ?_ (ih (i + 1) (by omega) (by omega)))
      simp only [e]
theorem spec_out (n : Int) (L : List Int) (a b : Int) (hb : boardB n L = true) : Ev (fun k => spec_FilledLine.l0 k [a, b] 2 0 n L) (twoF L a b) := by
  unfold twoF
  refine evSucc (fun k => by rw [spec_FilledLine.l0]) ?_
  refine evT (by omega) (evT (by omega) (evT (by simp) (spec_in n L 0 a hb [a, b] 2 0 _ ?_ L.length 0 (by omega) (by omega))))
  refine evSucc (fun k => by rw [spec_FilledLine.l0]) ?_
  rw [show wrap64 (0 + 1) = 1 by decide +kernel]
  refine evT (by omega) (evT (by omega) (evT (by simp) (spec_in n L 1 b hb [a, b] 2 1 _ ?_ L.length 0 (by omega) (by omega))))
  refine evSucc (fun k => by rw [spec_FilledLine.l0]) ?_
  rw [show wrap64 (1 + 1) = 2 by decide +kernel]
  exact evF (by omega) (evS _)
theorem impl_out (n : Int) (L : List Int) (a b : Int) (hb : boardB n L = true) (h0 : 0 ≤ a ∧ a ≤ 65535) (h1 : 0 ≤ b ∧ b ≤ 65535) : Ev (fun k => impl_FilledLine.l0 k [a, b] 2 0 n L) (twoF L a b) := by
  have ha := filled_impl n L a hb h0.1 h0.2
  have hc := filled_impl n L b hb h1.1 h1.2
  unfold twoF
  refine evSucc (fun k => by rw [impl_FilledLine.l0]) ?_
  refine evT (by omega) (evT (by omega) (evT (by simp) (evB ha ?_)))
  by_cases c : fillF L a L.length 0 = 0
  · rw [if_pos c]
    refine evT c ?_
    refine evSucc (fun k => by rw [impl_FilledLine.l0]) ?_
    rw [show wrap64 (0 + 1) = 1 by decide +kernel]
    refine evT (by omega) (evT (by omega) (evT (by simp) (evB hc ?_)))
    by_cases e : fillF L b L.length 0 = 0
    · rw [if_pos e]
      refine evT e ?_
      refine evSucc (fun k => by rw [impl_FilledLine.l0]) ?_
      rw [show wrap64 (1 + 1) = 2 by decide +kernel]
      exact evF (by omega) (evS _)
    · rw [if_neg e]
      exact evF e (evS _)
  · rw [if_neg c]
    exact evF c (evS _)
theorem both (n : Int) (L : List Int) (a b : Int) (h : L.length ≤ 1048576) : ∃ r : Int × Int × Int, Ev (fun k => spec_FilledLine.f k n L a b) r ∧ Ev (fun k => impl_FilledLine.f k n L a b) r := by
  unfold spec_FilledLine.f impl_FilledLine.f impl_stateCode.f
  have h1 := sets_spec n L a b h
  have h2 := sets_impl n L a b h
  by_cases c : setsC n L a b = 0
  · obtain ⟨c0, c1, c2, c3⟩ := setsC_zero n L a b c
    rw [if_pos c] at h1
    cases hs : stateB a b with
    | true =>
      rw [hs, if_pos rfl] at h1
      refine ⟨twoF L a b, evB h1 (evT rfl (evG rfl (spec_out n L a b c0))), evB (a := (0 : Int)) (evB h2 (evT c ?_)) (evT rfl (evG rfl (impl_out n L a b c0 (by omega) (by omega))))⟩
      rw [state_impl a b (by omega) (by omega), hs]
      exact evG rfl (evB (first_one true 5) (evS _))
    | false =>
      rw [hs, if_neg (by simp)] at h1
      refine ⟨(0, 0, 5), evB h1 (evF (by decide) (evS _)), evB (a := (5 : Int)) (evB h2 (evT c ?_)) (evF (by decide) (evS _))⟩
      rw [state_impl a b (by omega) (by omega), hs]
      exact evG rfl (evB (first_one false 5) (evS _))
  · rw [if_neg c] at h1
    exact ⟨(0, 0, setsC n L a b), evB h1 (evF c (evS _)), evB (evB h2 (evF c (evS _))) (evF c (evS _))⟩

theorem FnExactFilledLine (n : Int) (L : List Int) (a b : Int) (_ : (Lit.int .i64 n).wf = true) (hm : L.length ≤ maxLen) (_ : ∀ x ∈ L, (Lit.int .i64 x).wf = true) (_ : (Lit.int .i64 a).wf = true) (_ : (Lit.int .i64 b).wf = true) : Ev (fun k => laws_FnExactFilledLine.f k n L a b) true := by
  unfold laws_FnExactFilledLine.f
  by_cases h : L.length ≤ 1048576
  · obtain ⟨r, hs, hi⟩ := both n L a b h
    rw [szB_ok n L h]
    refine evG rfl (evF (by omega) (evB (toB n L h) (evB hs (evB (toB n L h) (evB hi (evT rfl (evT rfl ?_)))))))
    refine evSucc (fun k => by rw [laws_FnExactFilledLine.j0]) ?_
    exact evF (by simp) (evB (toB n L h) (evB (eqB n L h) (evT rfl (evS _))))
  · rw [szB_big n L hm (by omega)]
    exact evG rfl (evT (by omega) (evS _))
end Go.Proofs.Ytjeiifiacjhfoaa.Pure
