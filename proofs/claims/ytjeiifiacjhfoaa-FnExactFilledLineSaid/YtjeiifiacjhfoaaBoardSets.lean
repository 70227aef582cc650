/-
  Boards with two sets of nodes: the codes and the test of states, program and reference. No condition beyond those that are written.
-/
import Derived.Test.YtjeiifiacjhfoaaQ10
import Derived.Test.YtjeiifiacjhfoaaFirstTwo
import Derived.Test.YtjeiifiacjhfoaaBoardSame
import Derived.Test.YtjeiifiacjhfoaaBoardCount
namespace Go.Proofs.Ytjeiifiacjhfoaa.B
open Go.RowKit Go.Proofs.Ytjeiifiacjhfoaa.Q Go.Proofs.YtjeiifiacjhfoaaW.PrintWords Go.Proofs.YtjeiifiacjhfoaaW.PrintLast Go.Proofs.YtjeiifiacjhfoaaW.PrintMore

def setsC (n : Int) (L : List Int) (a b : Int) : Int := if boardB n L = true then if (0 ≤ a ∧ a ≤ full n) ∧ (0 ≤ b ∧ b ≤ full n) then 0 else 2 else 1
def stateB (a b : Int) : Bool := decide (Go.bits .and .i64 a b = 0) && decide (0 ≤ popI a - popI b ∧ popI a - popI b ≤ 1)
theorem sets_impl (n : Int) (L : List Int) (a b : Int) (hm : L.length ≤ 1048576) : Ev (fun k => impl_setsCode.f k n L a b) (setsC n L a b) := by
  unfold impl_setsCode.f setsC
  rw [within_eq, within_eq]
  have hb := board_impl n L (by omega)
  cases h : boardB n L with
  | false =>
    rw [h] at hb
    refine evB hb (evG rfl ?_)
    generalize wrap64 (wrap64 (2 ^ (mx (mn n 16) 0).toNat) - 1) = top
    by_cases q : 0 ≤ a ∧ a ≤ top
    · exact evT (by simpa using q) (evG rfl (evB (first_two _ _ _ _) (evS _)))
    · exact evF (by simpa using q) (evB (first_two _ _ _ _) (evS _))
  | true =>
    rw [h] at hb
    have hn := ((boardB_iff n L).1 h).1
    have hx : wrap64 (wrap64 (2 ^ (mx (mn n 16) 0).toNat) - 1) = full n := by
      have e : (mx (mn n 16) 0) = n := by simp [mx, mn]; omega
      have f := full_shl n hn
      unfold full at f ⊢
      have e2 : (2 : Int) ^ n.toNat = ((2 ^ n.toNat : Nat) : Int) := by push_cast; rfl
      rw [e, e2, wrap_in (x := ((2 ^ n.toNat : Nat) : Int)) (by omega) (by omega), wrap_in (by omega) (by omega)]
    rw [hx]
    refine evB hb (evG rfl ?_)
    by_cases ha : 0 ≤ a ∧ a ≤ full n
    · refine evT (by simpa using ha) (evG rfl (evB (first_two _ _ _ _) (evE ?_ (evS _))))
      simp [ha]
    · refine evF (by simpa using ha) (evB (first_two _ _ _ _) (evE ?_ (evS _)))
      simp [ha]
theorem state_impl (a b : Int) (h0 : 0 ≤ a ∧ a ≤ 65535) (h1 : 0 ≤ b ∧ b ≤ 65535) : impl_isState.f a b = some (stateB a b) := by
  unfold impl_isState.f stateB
  have r1 := popI_range a
  have r2 := popI_range b
  rw [many_eq a h0.1 (by omega), many_eq b h1.1 (by omega)]
  simp only [Option.bind_some]
  rw [wrap_in (by omega) (by omega)]
  generalize Go.bits .and .i64 a b = z
  generalize popI a = p at *
  generalize popI b = q at *
  by_cases c : z = 0
  · rw [if_pos c]
    by_cases d : p - q = 0
    · rw [if_pos d]
      simp [c, d]
    · rw [if_neg d]
      simp only [c, decide_true, Bool.true_and]
      congr 1
      rw [Bool.eq_iff_iff]
      simp only [beq_iff_eq, decide_eq_true_eq]
      omega
  · rw [if_neg c]
    simp [c]
theorem sets_spec (n : Int) (L : List Int) (a b : Int) (hm : L.length ≤ 1048576) : Ev (fun k => spec_l07Sets.f k n L a b) (if setsC n L a b = 0 then if stateB a b = true then 0 else 5 else setsC n L a b) := by
  unfold spec_l07Sets.f setsC
  have hb := board_spec n L (by omega)
  cases h : boardB n L with
  | false =>
    rw [h] at hb
    exact evB hb (evF (by simp) (evE (by simp) (evS _)))
  | true =>
    rw [h] at hb
    have hn := ((boardB_iff n L).1 h).1
    obtain ⟨f1, f2, f3, f4, f5⟩ := full_shl n hn
    rw [f4, f1, l01In_eq, l01In_eq]
    refine evB hb (evT rfl (evT (by omega) (evG rfl ?_)))
    by_cases ha : 0 ≤ a ∧ a ≤ full n
    · refine evT (by simpa using ha) (evG rfl ?_)
      refine evSucc (fun k => by rw [spec_l07Sets.j0]) ?_
      by_cases hb' : 0 ≤ b ∧ b ≤ full n
      · refine evF (by simpa using hb') ?_
        have e : (if true = true then if (0 ≤ a ∧ a ≤ full n) ∧ (0 ≤ b ∧ b ≤ full n) then (0 : Int) else 2 else 1) = 0 := by simp [ha, hb']
        rw [e, if_pos rfl]
        unfold stateB
        have r1 := popI_range a
        have r2 := popI_range b
        by_cases c : Go.bits .and .i64 a b = 0
        · refine evT c (evB (ones_eq a (by omega) (by omega)) (evB (ones_eq b (by omega) (by omega)) ?_))
          rw [wrap_in (by omega) (by omega), l01In_eq]
          refine evG rfl ?_
          by_cases d : 0 ≤ popI a - popI b ∧ popI a - popI b ≤ 1
          · exact evT (by simpa using d) (evE (by rw [decide_eq_true c, decide_eq_true d]; rfl) (evS _))
          · exact evF (by simpa using d) (evE (by rw [decide_eq_true c, decide_eq_false d]; rfl) (evS _))
        · exact evF c (evE (by rw [decide_eq_false c]; rfl) (evS _))
      · exact evT (by simp; omega) (evE (by simp [ha, hb']) (evS _))
    · refine evF (by simpa using ha) ?_
      refine evSucc (fun k => by rw [spec_l07Sets.j0]) ?_
      exact evT rfl (evE (by simp [ha]) (evS _))
theorem setsC_zero (n : Int) (L : List Int) (a b : Int) (h : setsC n L a b = 0) : boardB n L = true ∧ (0 ≤ a ∧ a ≤ full n) ∧ (0 ≤ b ∧ b ≤ full n) ∧ full n ≤ 65535 := by
  unfold setsC at h
  split at h
  · rename_i hb
    split at h
    · rename_i hc
      exact ⟨hb, hc.1, hc.2, (full_shl n ((boardB_iff n L).1 hb).1).2.2.1⟩
    · omega
  · omega
end Go.Proofs.Ytjeiifiacjhfoaa.B
