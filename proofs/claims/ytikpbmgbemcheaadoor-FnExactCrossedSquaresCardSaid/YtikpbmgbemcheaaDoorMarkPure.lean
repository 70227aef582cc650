/-
  The laws' marks of texts end, of few texts.
-/
import Derived.Test.YtikpbmgbemcheaaDoorStrsSame
import Derived.Test.YtikpbmgbemcheaaDoorQ8
namespace Go.Proofs.YtikpbmgbemcheaaDoor.B
open Go.RowKit Go.Proofs.YtikpbmgbemcheaaDoor.Q Go.Proofs.YtikpbmgbemcheaaDoorW.PrintWords Go.Proofs.YtikpbmgbemcheaaDoorW.PrintLast

theorem pow_small : ∀ d : Fin 19, (10 : Int) ^ d.val ≤ 1000000000000000000 := by decide +kernel
theorem markText_l (d : Nat) : ∀ (x : Int) (s : ByteArray), 0 ≤ x → x < 10 ^ d → d ≤ 19 → s.size + d ≤ 1000 → ∃ t, Ev (fun k => laws_markText.l0 k x s) t := by
  induction d with
  | zero =>
    intro x s h0 h1 h2 h3
    exact ⟨_, evSucc (fun k => by rw [laws_markText.l0]) (evF (by simp at h1; omega) (evT (by omega) (evS _)))⟩
  | succ d ih =>
    intro x s h0 h1 h2 h3
    by_cases c : x > 0
    · have hq : Int.tdiv x 10 = x / 10 := Int.tdiv_eq_ediv_of_nonneg h0
      have hp : (10 : Int) ^ (d + 1) = 10 ^ d * 10 := Int.pow_succ 10 d
      have hx : x / 10 < 10 ^ d := by omega
      have hd : (10 : Int) ^ d ≤ 1000000000000000000 := pow_small ⟨d, by omega⟩
      have hs : ∀ n : Int, (strOfNums [n] ++ s).size = 1 + s.size := fun n => by
        rw [ByteArray.size_append]
        rfl
      obtain ⟨t, ht⟩ := ih (x / 10) (strOfNums [(wrap64 (48 + (Int.tmod x 10))) % 256] ++ s) (by omega) hx (by omega) (by rw [hs]; omega)
      refine ⟨t, ?_⟩
      refine evSucc (fun k => by rw [laws_markText.l0]) ?_
      refine evT c (evG rfl (evT ?_ ?_))
      · have : (strOfNums [(wrap64 (48 + (Int.tmod x 10))) % 256]).size = 1 := rfl
        rw [this]
        omega
      · rw [hq, wrap_in (x := x / 10) (by omega) (by omega)]
        exact ht
    · exact ⟨_, evSucc (fun k => by rw [laws_markText.l0]) (evF c (evT (by omega) (evS _)))⟩
theorem markText_some (x : Int) (h : x < 1000000000000000000) : ∃ t, Ev (fun k => laws_markText.f k x) t := by
  unfold laws_markText.f
  by_cases c : x ≤ 0
  · exact ⟨_, evT c (evS _)⟩
  · obtain ⟨t, ht⟩ := markText_l 18 x (⟨#[]⟩ : ByteArray) (by omega) (by simpa using h) (by omega) (by decide)
    exact ⟨t, evF c ht⟩
theorem markStrs_l (d : Nat) : ∀ (l : List ByteArray) (m i : Int), 0 ≤ i → i + d = l.length → l.length ≤ 100000000 → 0 ≤ m → m + d ≤ 100000000 → ∃ z l', Ev (fun k => laws_markStringS.l0 k l m i) (z, l') ∧ 0 ≤ z := by
  induction d with
  | zero =>
    intro l m i h0 hd hl hm hk
    exact ⟨m, l, evSucc (fun k => by rw [laws_markStringS.l0]) (evF (by omega) (evS _)), hm⟩
  | succ d ih =>
    intro l m i h0 hd hl hm hk
    obtain ⟨t, ht⟩ := markText_some m (by omega)
    obtain ⟨z, l', h1, h2⟩ := ih (l.set i.toNat t) (m + 1) (i + 1) (by omega) (by rw [List.length_set]; omega) (by rw [List.length_set]; omega) (by omega) (by omega)
    refine ⟨z, l', ?_, h2⟩
    refine evSucc (fun k => by rw [laws_markStringS.l0]) ?_
    refine evT (by omega) (evB ht (evT h0 ?_))
    rw [wrap_in (x := m + 1) (by omega) (by omega), wrap_in (x := i + 1) (by omega) (by omega)]
    exact h1
theorem markStrs (l : List ByteArray) (hl : l.length ≤ 1048576) : ∃ z l', Ev (fun k => laws_markStringS.f k l 1) (z, l') ∧ 0 ≤ z := by
  unfold laws_markStringS.f
  exact markStrs_l l.length l 1 0 (by omega) (by omega) (by omega) (by omega) (by omega)
end Go.Proofs.YtikpbmgbemcheaaDoor.B
