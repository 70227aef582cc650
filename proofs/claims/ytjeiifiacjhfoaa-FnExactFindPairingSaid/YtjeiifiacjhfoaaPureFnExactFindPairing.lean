/-
  The pure statement of the law FnExactFindPairing: program and reference tell the same pairs, which belong to the caller alone, whatever the board.
-/
import Derived.Test.YtjeiifiacjhfoaaOutPairLaw
import Derived.Test.YtjeiifiacjhfoaaPairPure
import Derived.Test.YtjeiifiacjhfoaaRowsPure
import Derived.Test.YtjeiifiacjhfoaaBoardSame
import Derived.Test.YtjeiifiacjhfoaaBoardEv
namespace Go.Proofs.Ytjeiifiacjhfoaa.Pure
open Go.RowKit Go.Proofs.Ytjeiifiacjhfoaa.Q Go.Proofs.YtjeiifiacjhfoaaW.PrintWords Go.Proofs.YtjeiifiacjhfoaaW.PrintLast Go.Proofs.YtjeiifiacjhfoaaW.PrintMore Go.Proofs.Ytjeiifiacjhfoaa.B

theorem tryB_len (m : Nat) (g : Int → Option PR) (l : List Int) (h : ∀ b ∈ l, ∀ r, g b = some r → r.1.length ≤ m) : ∀ r, tryB g l = some r → r.1.length ≤ m := by
  induction l with
  | nil => intro r h; simp [tryB] at h; subst h; simp
  | cons b l ih =>
    intro r hr
    simp only [tryB] at hr
    obtain ⟨q, hq, hr⟩ := Option.bind_eq_some_iff.1 hr
    split at hr
    · obtain rfl := Option.some.inj hr
      exact h b List.mem_cons_self q hq
    · exact ih (fun x hx => h x (List.mem_cons_of_mem _ hx)) r hr
theorem tryA_len (m : Nat) (g : Int → Int → Option PR) (l : List Int) (h : ∀ a b r, g a b = some r → r.1.length ≤ m) : ∀ r, tryA g l = some r → r.1.length ≤ m := by
  induction l with
  | nil => intro r h; simp [tryA] at h; subst h; simp
  | cons a l ih =>
    intro r hr
    simp only [tryA] at hr
    obtain ⟨q, hq, hr⟩ := Option.bind_eq_some_iff.1 hr
    split at hr
    · obtain rfl := Option.some.inj hr
      exact tryB_len m (g a) l (fun b _ => h a b) q hq
    · exact ih r hr
theorem pair_len : ∀ (L : List Int) (ps : List (Int × Int)) (used : Int) (r : PR), pairF L ps used = some r → r.1.length ≤ ps.length + L.length
  | [], ps, used, r, h => by
    simp only [pairF] at h
    obtain rfl := Option.some.inj h
    simp
  | line :: rest, ps, used, r, h => by
    simp only [pairF] at h
    obtain ⟨b, hb, h⟩ := Option.bind_eq_some_iff.1 h
    split at h
    · have := pair_len rest ps used r h
      simp only [List.length_cons]
      omega
    · obtain ⟨l, hl, h⟩ := Option.bind_eq_some_iff.1 h
      split at h
      · refine tryA_len _ _ l (fun x y q hq => ?_) r h
        split at hq
        · have := pair_len rest _ _ q hq
          rw [List.length_append, List.length_singleton] at this
          simp only [List.length_cons]
          omega
        · cases hq
      · cases h
theorem both_pairs (n : Int) (L : List Int) (hm : L.length ≤ 1048576) : ∃ (r : List (Int × Int)) (e : Int), Ev (fun k => findS k n L) (r, e) ∧ Ev (fun k => findI k n L) (r, e) ∧ r.length ≤ 1000 := by
  unfold findS findI
  cases h : boardB n L with
  | false =>
    have hs := board_spec n L (by omega)
    have hi := board_impl n L (by omega)
    rw [h] at hs hi
    exact ⟨[], 1, evB hs (evF (by simp) (evS _)), evB hi (evF (by simp) (evS _)), by simp⟩
  | true =>
    have hs := board_spec n L (by omega)
    have hi := board_impl n L (by omega)
    rw [h] at hs hi
    have hl := ((boardB_iff n L).1 h).2.1
    obtain ⟨r, hr, _⟩ := pair_total nodes_ok L [] 0 (fun p hp => by cases hp)
    have hlen := pair_len L [] 0 r hr
    simp only [List.length_nil] at hlen
    by_cases c : r.2 = true
    · refine ⟨r.1, 0, evB hs (evT rfl ⟨20, fun k hk => ?_⟩), evB hi (evT rfl ⟨0, fun k _ => ?_⟩), by omega⟩
      · show (if L.length < 1000 ∧ 20 ≤ k then (pairF L [] 0).bind _ else none) = _
        rw [if_pos ⟨by omega, hk⟩, hr, Option.bind_some, if_pos c]
      · show (if L.length < 1000 then (pairF L [] 0).bind _ else none) = _
        rw [if_pos (by omega), hr, Option.bind_some, if_pos c]
    · refine ⟨[], 4, evB hs (evT rfl ⟨20, fun k hk => ?_⟩), evB hi (evT rfl ⟨0, fun k _ => ?_⟩), by simp⟩
      · show (if L.length < 1000 ∧ 20 ≤ k then (pairF L [] 0).bind _ else none) = _
        rw [if_pos ⟨by omega, hk⟩, hr, Option.bind_some, if_neg c]
      · show (if L.length < 1000 then (pairF L [] 0).bind _ else none) = _
        rw [if_pos (by omega), hr, Option.bind_some, if_neg c]
theorem FnExactFindPairing (n : Int) (L : List Int) (_ : (Lit.int .i64 n).wf = true) (hm : L.length ≤ maxLen) (_ : ∀ x ∈ L, (Lit.int .i64 x).wf = true) : Ev (fun k => laws_FnExactFindPairing.f k n L) true := by
  by_cases h : L.length ≤ 1048576
  · obtain ⟨r, e, h1, h2, h3⟩ := both_pairs n L h
    have h22 : ∀ s ∈ r.map two, s.length = 2 := fun s hs => by
      obtain ⟨p, _, rfl⟩ := List.mem_map.1 hs
      rfl
    have hmb : ∃ mk ml, Ev (fun k => laws_markBoard.f k n L 1) (mk, ml) ∧ 0 ≤ mk := by
      refine ⟨1 + L.length, marks 1 L.length, ?_, by omega⟩
      unfold laws_markBoard.f
      exact evB (markInts L 1 (by omega) (by omega)) (evS _)
    obtain ⟨mk, ml, g1, g2⟩ := hmb
    obtain ⟨K1, k1⟩ := ev_and (toB n L h) (eqB n L h)
    obtain ⟨K2, k2⟩ := ev_and h1 h2
    obtain ⟨K3, k3⟩ := eqRows (r.map two) (by rw [List.length_map]; omega) h22
    obtain ⟨K4, k4⟩ := ev_and g1 (markRows (r.map two) h22 (by rw [List.length_map]; omega))
    obtain ⟨K5, k5⟩ := heldRows (r.map two).length (by rw [List.length_map]; omega)
    refine ⟨K1 + K2 + K3 + K4 + K5, fun m hn => ?_⟩
    exact laws_FnExactFindPairing.at_ (szB_ok n L h) (by omega) (k1 m (by omega)).1 (k2 m (by omega)).1 (k2 m (by omega)).2 (k3 m (by omega)) (k1 m (by omega)).2 (k4 m (by omega)).1 g2 (k4 m (by omega)).2 (by omega) (k5 m (by omega))
  · unfold laws_FnExactFindPairing.f
    rw [szB_big n L hm (by omega)]
    exact evG rfl (evT (by omega) (evS _))
end Go.Proofs.Ytjeiifiacjhfoaa.Pure
