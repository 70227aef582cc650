/-
  The pure statement of the law FnExactBestNodes: program and reference tell the same nodes and code, the board stays as it was, and the marks hold, whatever the arguments are.
-/
import Derived.Test.YtjeiifiacjhfoaaQ44
import Derived.Test.YtjeiifiacjhfoaaBoard
import Derived.Test.YtjeiifiacjhfoaaRaceLaw
namespace Go.Proofs.Ytjeiifiacjhfoaa.Pure
open Go.RowKit Go.Proofs.Ytjeiifiacjhfoaa.Q Go.Proofs.YtjeiifiacjhfoaaW.PrintWords Go.Proofs.YtjeiifiacjhfoaaW.PrintLast Go.Proofs.YtjeiifiacjhfoaaW.PrintMore Go.Proofs.Ytjeiifiacjhfoaa.B

theorem best_both (n : Int) (L : List Int) (a b : Int) (h : L.length ≤ 1048576) : ∃ (l : List Int) (c : Int), l.length ≤ 24 ∧ Ev (fun k => spec_BestNodes.f k n L a b) (l, c) ∧ Ev (fun k => impl_BestNodes.f k n L a b) (l, c) := by
  unfold spec_BestNodes.f impl_BestNodes.f
  rcases codes n L a b h with ⟨c, hc, h1, h2⟩ | ⟨a, b, rfl, rfl, hb, hn, hok, hf, _, _, h1, h2⟩
  · exact ⟨[], c, by simp, evB h1 (evF hc (evS _)), evB h2 (evF hc (evS _))⟩
  · obtain ⟨b1, b2, b3⟩ := (boardB_iff n L).1 hb
    obtain ⟨ha16, hb16⟩ := hok.1.le16 (by omega)
    obtain ⟨T', h3, _⟩ := best_spec hb hn a b hok _ (TabR.new n L)
    have h4 := best_impl hb hn (sd a b).1 (sd a b).2 (sd_two hok.1) (by rw [← sd_free]; exact hf)
    rw [keepN_sd] at h3
    have hl : (bestO n L (sd a b).1 (sd a b).2).length ≤ 24 := by
      have h5 := freeN_len n (sd a b).1 (sd a b).2
      have h6 : (bestO n L (sd a b).1 (sd a b).2).length ≤ (freeN n (sd a b).1 (sd a b).2).length := List.length_filter_le _ _
      omega
    generalize bestO n L (sd a b).1 (sd a b).2 = l at h3 h4 hl
    exact ⟨l, 0, hl, evB h1 (evT rfl (evB (table_spec n L ⟨b1.1, hn⟩) (evB h3 (evS _)))), evB h2 (evT rfl (evG (raceOf_eq a b ha16 hb16) (evB h4 (evS _))))⟩
theorem markB (n : Int) (L : List Int) (h : L.length ≤ 1048576) : Ev (fun k => laws_markBoard.f k n L 1) (1 + L.length, marks 1 L.length) := by
  unfold laws_markBoard.f
  exact evB (markInts L 1 (by omega) (by omega)) (evS _)
theorem FnExactBestNodes (n : Int) (L : List Int) (a b : Int) (_ : (Lit.int .i64 n).wf = true) (hm : L.length ≤ maxLen) (_ : ∀ x ∈ L, (Lit.int .i64 x).wf = true) (_ : (Lit.int .i64 a).wf = true) (_ : (Lit.int .i64 b).wf = true) : Ev (fun k => laws_FnExactBestNodes.f k n L a b) true := by
  unfold laws_FnExactBestNodes.f
  by_cases h : L.length ≤ 1048576
  · obtain ⟨l, c, hl, hs, hi⟩ := best_both n L a b h
    rw [szB_ok n L h]
    refine evG rfl (evF (by omega) (evB (toB n L h) (evB hs (evB (toB n L h) (evB hi (evB (eqInts l (by omega)) (evT (by rfl) ?_)))))))
    refine evSucc (fun k => by rw [laws_FnExactBestNodes.j0]) ?_
    refine evF (by simp) (evB (toB n L h) (evB (eqB n L h) (evT rfl (evB (markB n L h) (evF (by omega) (evB (eqInts l (by omega)) (evT (by rfl) ?_)))))))
    refine evSucc (fun k => by rw [laws_FnExactBestNodes.j1]) ?_
    refine evF (by simp) (evB (markInts l 1 (by omega) (by omega)) (evB (heldInts l.length 1 (by omega) (by omega)) (evF (by omega) (evT (by rfl) ?_))))
    refine evB (toB n L h) (evB hi (evB (eqInts l (by omega)) (evT (by rfl) ?_)))
    refine evSucc (fun k => by rw [laws_FnExactBestNodes.j2]) ?_
    exact evF (by simp) (evB (heldInts l.length 1 (by omega) (by omega)) (evF (by omega) (evT (by rfl) (evS _))))
  · rw [szB_big n L hm (by omega)]
    exact evG rfl (evT (by omega) (evS _))
end Go.Proofs.Ytjeiifiacjhfoaa.Pure
