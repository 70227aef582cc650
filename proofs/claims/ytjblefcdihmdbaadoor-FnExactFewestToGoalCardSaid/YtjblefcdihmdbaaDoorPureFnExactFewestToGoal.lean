/-
  The pure statement of the law FnExactFewestToGoal: program and reference answer alike, and the rows stay as they were, whatever the arguments.
-/
import Derived.Test.YtjblefcdihmdbaaDoorQ16
import Derived.Test.YtjblefcdihmdbaaDoorPathPure
namespace Go.Proofs.YtjblefcdihmdbaaDoor.B
open Go.RowKit Go.Proofs.YtjblefcdihmdbaaDoor.Q Go.Proofs.YtjblefcdihmdbaaDoorW.PrintWords Go.Proofs.YtjblefcdihmdbaaDoorW.PrintLast

theorem start_inv {l : List ByteArray} {q : Q4} (hg : Good l q) : Inv l [trip0 q.1 q.2.1 q.2.2.1 q.2.2.2] := by
  refine ⟨fun t ht => ?_, by simp, fun t ht => ?_⟩
  · obtain rfl : t = trip0 q.1 q.2.1 q.2.2.1 q.2.2.2 := by simpa using ht
    exact hg
  · obtain rfl : t = trip0 q.1 q.2.1 q.2.2.1 q.2.2.2 := by simpa using ht
    simp [trip0]
theorem wfG_good {l : List ByteArray} (ht : isT l = true) {q : Q4} (hg : Good l q) : wfG q = true := by
  obtain ⟨h1, h2, h3, h4⟩ := hg.range ht
  have w : ∀ x : Int, -9223372036854775808 ≤ x → x ≤ 9223372036854775807 → (Lit.int .i64 x).wf = true := fun x a b => by
    have := wrap64_wf x
    rwa [wrap_in a b] at this
  simp only [wfG, Bool.and_eq_true]
  exact ⟨w _ (by omega) (by omega), w _ (by omega) (by omega), w _ (by omega) (by omega), w _ (by omega) (by omega)⟩
theorem start_back (c0 c1 c2 c3 : Int) : Back [trip0 c0 c1 c2 c3] := by
  intro i h0 h1
  obtain rfl : i = 0 := by simp at h1; omega
  show (-1 : Int) < 0
  decide
theorem route_both {l : List ByteArray} (ht : isT l = true) (x y : Int) (hg : Good l (x, y, 0, 0)) : ∃ z : List Int × Bool, Ev (fun k => spec_l08Route.f k l x y 0 0) z ∧ Ev (fun k => impl_routeFrom.f k l x y 0 0) z ∧ (z.2 = false → z.1 = []) := by
  have hR : InR (x, y, 0, 0) := hg.range ht
  have hnum := numQ_range hR
  have hI := start_inv hg
  have hB := start_back x y 0 0
  obtain ⟨D, hD⟩ : ∃ D : Nat, D = 30977 := ⟨_, rfl⟩
  obtain ⟨M, hM⟩ : ∃ M : Int, M = 1099511627776 := ⟨_, rfl⟩
  have s1 := path_out ht M (by omega) D (by omega) D 0 [trip0 x y 0 0] _ (by omega) (by omega) hI hB (met_start hR)
  obtain ⟨K, hK⟩ := tour_bfs ht (goalB l) (fun _ => goalP l) (fun q _ => evC (goal_impl ht q)) M D [trip0 x y 0 0] 0 hI (by omega) (by omega)
  obtain ⟨i1, i2, i3⟩ := bfs_back ht (goalB l) M D [trip0 x y 0 0] 0 hI hB (by omega)
  have hlen : (List.replicate 30976 false).length = 30976 := List.length_replicate
  change Ev (fun k => spec_l08Route.l0 k l _ [⟨x, y, 0, 0⟩] [-1] [0] 0) _ at s1
  unfold spec_l08Route.f
  generalize List.replicate 30976 false = rep at s1 hlen ⊢
  generalize bfs l (goalB l) M D [trip0 x y 0 0] 0 = z at s1 hK i1 i2 i3
  obtain ⟨ts, i⟩ := z
  simp only at i1 i2 i3
  have hts := i1.len ht
  refine ⟨wayB D (ts, i), ?_, ⟨K + D + 1, fun n hn => ?_⟩, fun h => ?_⟩
  · refine evG rfl ?_
    refine evG (number_eq (q := (x, y, 0, 0)) hR) ?_
    refine evT hnum.1 ?_
    refine evT (by rw [hlen]; exact hnum.2) ?_
    exact s1
  · unfold impl_routeFrom.f
    have e1 := hK n (by omega) n (by omega)
    rw [hM] at e1
    show (if wfG (x, y, 0, 0) = true then _ else _) = _
    rw [if_pos (wfG_good ht hg), e1, Option.bind_some]
    simp only [wayB]
    by_cases c : i < 0
    · rw [if_pos c, if_pos c]
    · have h3 := i3 (by omega)
      have := pathL_len ts D i
      rw [if_neg c, if_neg c, if_pos h3, path_impl i2 D i [] (by omega) h3 (by omega) (by simp; omega) n (by omega), Option.bind_some, List.nil_append, if_pos (by omega)]
  · revert h
    simp only [wayB]
    split
    · intro _; rfl
    · intro h; simp at h
theorem both_fewest (l : List ByteArray) (hs : Small l) : ∃ (r e : Int), Ev (fun k => spec_FewestToGoal.f k l) (r, e) ∧ Ev (fun k => impl_FewestToGoal.f k l) (r, e) := by
  unfold spec_FewestToGoal.f impl_FewestToGoal.f impl_FirstRoute.f
  by_cases ht : isT l = true
  · obtain ⟨x, y, h1, h2, hg, _⟩ := first_good ht
    obtain ⟨⟨p, b⟩, r1, r2, r3⟩ := route_both ht x y hg
    cases b with
    | false =>
      obtain rfl : p = [] := r3 rfl
      refine ⟨0, 4, ?_, ?_⟩
      · exact evB (track_spec l) (evT ht (evB h1 (evB r1 (evF (by simp) (evS _)))))
      · exact evB (evG (track_impl l hs) (evT ht (evG h2 (evB r2 (evF (by simp) (evS _)))))) (evG rfl (evS _))
    | true =>
      refine ⟨(p.length : Int), 0, ?_, ?_⟩
      · exact evB (track_spec l) (evT ht (evB h1 (evB r1 (evT rfl (evS _)))))
      · exact evB (evG (track_impl l hs) (evT ht (evG h2 (evB r2 (evT rfl (evS _)))))) (evG rfl (evS _))
  · refine ⟨0, 1, ?_, ?_⟩
    · exact evB (track_spec l) (evF ht (evS _))
    · exact evB (evG (track_impl l hs) (evF ht (evS _))) (evG rfl (evS _))
end Go.Proofs.YtjblefcdihmdbaaDoor.B
namespace Go.Proofs.YtjblefcdihmdbaaDoor.Pure
open Go.RowKit Go.Proofs.YtjblefcdihmdbaaDoor.Q Go.Proofs.YtjblefcdihmdbaaDoorW.PrintWords Go.Proofs.YtjblefcdihmdbaaDoorW.PrintLast Go.Proofs.YtjblefcdihmdbaaDoorW.PrintMore Go.Proofs.YtjblefcdihmdbaaDoor.B

theorem FnExactFewestToGoal (l : List ByteArray) (hm : l.length ≤ maxLen) (hs : ∀ s ∈ l, s.size ≤ maxLen) :
    Ev (fun k => laws_FnExactFewestToGoal.f k l) true := by
  unfold laws_FnExactFewestToGoal.f
  obtain ⟨z, hz, h⟩ := szStrs l hm hs
  refine evB hz ?_
  rcases h with h | ⟨h, hl⟩
  · exact evT h (evS _)
  · obtain ⟨r, e, h1, h2⟩ := both_fewest l hl
    refine evF (by omega) (evB (toStrs l hl.1) (evB h1 (evB (toStrs l hl.1) (evB h2 (evT rfl ?_)))))
    refine evSucc (fun k => by rw [laws_FnExactFewestToGoal.j0]) ?_
    exact evF (by simp) (evB (toStrs l hl.1) (evB (eqStrs l hl.1) (evT rfl (evS _))))
end Go.Proofs.YtjblefcdihmdbaaDoor.Pure
