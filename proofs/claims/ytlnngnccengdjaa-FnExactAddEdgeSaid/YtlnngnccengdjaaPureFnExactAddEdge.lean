/-
  The pure statement of the law FnExactAddEdge: program and reference tell the same position, number and code, whatever the arguments are.
-/
import Derived.Test.YtlnngnccengdjaaQ27
import Derived.Test.YtlnngnccengdjaaBoxAdd
namespace Go.Proofs.Ytlnngnccengdjaa.Pure
open Go.RowKit Go.Proofs.Ytlnngnccengdjaa.Q Go.Proofs.YtlnngnccengdjaaW.PrintWords Go.Proofs.YtlnngnccengdjaaW.PrintLast Go.Proofs.YtlnngnccengdjaaW.PrintMore Go.Proofs.Ytlnngnccengdjaa.B

theorem both (W H E e : Int) : ∃ r : Int × Int × Int × Int × Int, Ev (fun k => spec_AddEdge.f k W H E e) r ∧ Ev (fun k => impl_AddEdge.f k W H E e) r := by
  unfold spec_AddEdge.f impl_AddEdge.f
  rw [isBox_spec]
  cases h : isBoxB W H E with
  | false =>
    refine ⟨(0, 0, 0, 0, 1), evG rfl (evF (by simp) (evS _)), evG (by unfold impl_Boxes_edges.f; rfl) ?_⟩
    have hc := boxesCode W H E e (wrap64 ((wrap64 (W * (wrap64 (H + 1)))) + (wrap64 ((wrap64 (W + 1)) * H))))
    rw [h, if_neg (by simp)] at hc
    refine evB hc (evF (by omega) ?_)
    refine evSucc (fun k => by rw [impl_AddEdge.j0]) ?_
    exact evF (by simp) (evF (by omega) (evS _))
  | true =>
    obtain ⟨w, hh, e0, e1⟩ := (isBoxB_iff W H E).1 h
    obtain ⟨f1, f2, f3, f4, f5, f6, f7, _⟩ := cnt_facts W H w.1 w.2 hh.1 hh.2
    have hw : wrap64 (cnt W H - 1) = cnt W H - 1 := wrap_in (by omega) (by omega)
    have hc := boxesCode W H E e (cnt W H)
    rw [h, if_pos rfl, hw] at hc
    have ei : impl_Boxes_edges.f W H E = some (cnt W H) := by unfold impl_Boxes_edges.f; rw [f1]
    have es : spec_l03Count.f W H E = some (cnt W H) := rfl
    rw [ei, es]
    simp only [Option.bind_some]
    rw [l01In_eq, hw]
    by_cases he : 0 ≤ e ∧ e ≤ cnt W H - 1
    · rw [if_pos he] at hc
      rw [u64_in e he.1 (by omega)]
      by_cases hd : Go.bits .and .i64 (shr .i64 E e) 1 = 1
      · refine ⟨(0, 0, 0, 0, 5), evT trivial (evG rfl (evT (by simpa using he) (evT he.1 (evT hd (evS _))))), (evB hc (evT (by rfl) (evG (a := true) ?_ ?_)))⟩
        · unfold impl_Boxes_has.f
          rw [if_pos he.1, hd]
          rfl
        · refine evSucc (fun k => by rw [impl_AddEdge.j0]) ?_
          exact evT (by rfl) (evS _)
      · refine ⟨(W, H, addE E e, gain W H E e, 0), evT trivial (evG rfl (evT (by simpa using he) (evT he.1 (evF hd (evB (move_spec W H E e h he.1 (by omega)) (evS _)))))), (evB hc (evT (by rfl) (evG (a := false) ?_ ?_)))⟩
        · unfold impl_Boxes_has.f
          rw [if_pos he.1]
          simp [hd]
        · refine evSucc (fun k => by rw [impl_AddEdge.j0]) ?_
          exact evF (by simp) (evT (by rfl) (evB (add_impl W H E e h he.1 (by omega)) (evS _)))
    · rw [if_neg he] at hc
      refine ⟨(0, 0, 0, 0, 2), evT trivial (evG rfl (evF (by simpa using he) (evS _))), (evB hc (evF (by omega) ?_))⟩
      refine evSucc (fun k => by rw [impl_AddEdge.j0]) ?_
      exact evF (by simp) (evF (by omega) (evS _))

theorem FnExactAddEdge (W H E e : Int) (_ : (Lit.int .i64 W).wf = true) (_ : (Lit.int .i64 H).wf = true) (_ : (Lit.int .i64 E).wf = true) (_ : (Lit.int .i64 e).wf = true) : Ev (fun k => laws_FnExactAddEdge.f k W H E e) true := by
  unfold laws_FnExactAddEdge.f
  obtain ⟨⟨r1, r2, r3, r4, r5⟩, hs, hi⟩ := both W H E e
  refine evG (by unfold laws_toBoxes.f; rfl) (evB hs (evG (by unfold laws_toBoxes.f; rfl) (evB hi (evG (a := true) (by unfold laws_eqBoxes.f; simp) (evT (by rfl) (evT (by rfl) (evT (by rfl) (evS _))))))))
end Go.Proofs.Ytlnngnccengdjaa.Pure
