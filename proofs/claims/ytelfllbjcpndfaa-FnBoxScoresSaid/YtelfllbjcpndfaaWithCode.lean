/-
  BoxesWith of the program comes to its code and list, whatever the arguments are.
-/
import Derived.Test.YtelfllbjcpndfaaQ4b
import Derived.Test.YtelfllbjcpndfaaBoxAdd
namespace Go.Proofs.Ytelfllbjcpndfaa.B
open Go.RowKit Go.Proofs.Ytelfllbjcpndfaa.Q Go.Proofs.YtelfllbjcpndfaaW.PrintWords Go.Proofs.YtelfllbjcpndfaaW.PrintLast

theorem impl_with_code (W H E n : Int) : ∃ (l : List Int) (c : Int), l.length ≤ 9 ∧ Ev (fun k => impl_BoxesWith.f k W H E n) (l, c) ∧
    ((l, c) = if isBoxB W H E = true then if 0 ≤ n ∧ n ≤ 4 then (withL W H E n, 0) else ([], 2) else ([], 1)) := by
  unfold impl_BoxesWith.f
  have hc := boxesCode W H E n 5
  rw [show wrap64 (5 - 1) = 4 by decide +kernel] at hc
  cases h : isBoxB W H E with
  | false =>
    rw [h, if_neg (by simp)] at hc
    exact ⟨[], 1, by simp, evB hc (evF (by omega) (evS _)), by simp⟩
  | true =>
    rw [h, if_pos rfl] at hc
    obtain ⟨w, hh, e0, e1⟩ := (isBoxB_iff W H E).1 h
    have f7 := (cnt_facts W H w.1 w.2 hh.1 hh.2).2.2.2.2.2.2.1
    by_cases hn : 0 ≤ n ∧ n ≤ 4
    · rw [if_pos hn] at hc
      exact ⟨withL W H E n, 0, withL_len W H E n w hh, evB hc (evT (by rfl) (evB (with_impl W H E n w hh e0 (by omega)) (evS _))), by simp [hn]⟩
    · rw [if_neg hn] at hc
      exact ⟨[], 2, by simp, evB hc (evF (by omega) (evS _)), by simp [hn]⟩
end Go.Proofs.Ytelfllbjcpndfaa.B
