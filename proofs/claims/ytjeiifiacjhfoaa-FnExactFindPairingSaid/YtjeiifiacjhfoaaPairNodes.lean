/-
  The nodes of a set: program and reference come to the same list, whatever the set; rounds enough are 20.
-/
import Derived.Test.YtjeiifiacjhfoaaQ2
import Derived.Test.YtjeiifiacjhfoaaQ1
import Derived.Test.YtjeiifiacjhfoaaChooseLaws
import Derived.Test.YtjeiifiacjhfoaaEvBase
namespace Go.Proofs.Ytjeiifiacjhfoaa.B
open Go.RowKit Go.Proofs.Ytjeiifiacjhfoaa.Q Go.Proofs.YtjeiifiacjhfoaaW.PrintWords Go.Proofs.YtjeiifiacjhfoaaW.PrintLast Go.Proofs.YtjeiifiacjhfoaaW.PrintMore

def nd (s x : Int) : Bool := Go.bits .and .i64 (shr .i64 s x) 1 == 1
theorem nodes_at (s : Int) (d : Nat) : ∀ (i : Int) (acc : List Int) (k : Nat), 0 ≤ i → i + d = 16 → acc.length ≤ i → d < k → spec_l07Nodes.l0 k s acc i = some (acc ++ (seg i d).filter (nd s)) := by
  induction d with
  | zero =>
    intro i acc k h0 h1 h2 hk
    obtain ⟨k, rfl⟩ : ∃ x, k = x + 1 := ⟨k - 1, by omega⟩
    rw [spec_l07Nodes.l0, if_neg (by omega)]
    simp [seg]
  | succ d ih =>
    intro i acc k h0 h1 h2 hk
    obtain ⟨k, rfl⟩ : ∃ x, k = x + 1 := ⟨k - 1, by omega⟩
    rw [spec_l07Nodes.l0, if_pos (by omega), wrap_in (x := i + 1) (by omega) (by omega), u64_in i h0 (by omega), if_pos h0]
    simp only [seg]
    by_cases c : Go.bits .and .i64 (shr .i64 s i) 1 = 1
    · have hn : nd s i = true := by simp [nd, c]
      rw [if_pos c, if_pos (by omega), ih (i + 1) (acc ++ [i]) k (by omega) (by omega) (by simp; omega) (by omega), List.filter_cons, if_pos hn, List.append_assoc]
      rfl
    · have hn : nd s i = false := by simp [nd, c]
      rw [if_neg c, ih (i + 1) acc k (by omega) (by omega) (by omega) (by omega), List.filter_cons, if_neg (by rw [hn]; decide)]
theorem nodes_impl (s : Int) : impl_nodesOf.f s = some ((seg 0 16).filter (nd s)) := by
  unfold impl_nodesOf.f choose_nodesOf.f
  rw [if_pos (by omega), show (16 : Int).toNat = 16 from rfl, chooseP_total (nodeP s) (nd s) 16 0 (fun x h0 h1 => by unfold nodeP; rw [if_pos (by omega)]; rfl)]
  rfl
theorem nodes_same (k : Nat) (hk : 20 ≤ k) (s : Int) (l : List Int) (h : impl_nodesOf.f s = some l) : spec_l07Nodes.f k s = some l := by
  rw [nodes_impl] at h
  unfold spec_l07Nodes.f
  rw [nodes_at s 16 0 [] k (by omega) (by omega) (by simp) (by omega), List.nil_append]
  exact h
theorem nodes_ok (s : Int) : ∃ l, impl_nodesOf.f s = some l ∧ l.length ≤ 1000 ∧ ∀ x ∈ l, 0 ≤ x ∧ x ≤ 63 := by
  refine ⟨_, nodes_impl s, ?_, fun x hx => ?_⟩
  · have := filter_length_le_seg (nd s) 0 16
    omega
  · have := (mem_seg 16 0 x).1 (List.mem_filter.1 hx).1
    omega
end Go.Proofs.Ytjeiifiacjhfoaa.B
