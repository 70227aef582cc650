/-
  The pure statement of the law FnExactRaceResult: program and reference tell the same result and code, and the board stays as it was, whatever the arguments are.
-/
import Derived.Test.YtjeiifiacjhfoaaQ42
import Derived.Test.YtjeiifiacjhfoaaBoard
import Derived.Test.YtjeiifiacjhfoaaRaceP
namespace Go.Proofs.Ytjeiifiacjhfoaa.Pure
open Go.RowKit Go.Proofs.Ytjeiifiacjhfoaa.Q Go.Proofs.YtjeiifiacjhfoaaW.PrintWords Go.Proofs.YtjeiifiacjhfoaaW.PrintLast Go.Proofs.YtjeiifiacjhfoaaW.PrintMore Go.Proofs.Ytjeiifiacjhfoaa.B

theorem race_both (n : Int) (L : List Int) (a b : Int) (h : L.length ≤ 1048576) : ∃ r c : Int, Ev (fun k => spec_RaceResult.f k n L a b) (r, c) ∧ Ev (fun k => impl_RaceResult.f k n L a b) (r, c) := by
  unfold spec_RaceResult.f impl_RaceResult.f
  rcases codes n L a b h with ⟨c, hc, h1, h2⟩ | ⟨a, b, rfl, rfl, hb, hn, hok, hf, _, _, h1, h2⟩
  · exact ⟨0, c, evB h1 (evF hc (evS _)), evB h2 (evF hc (evS _))⟩
  · obtain ⟨b1, b2, b3⟩ := (boardB_iff n L).1 hb
    obtain ⟨ha16, hb16⟩ := hok.1.le16 (by omega)
    obtain ⟨T', h3, _⟩ := race_spec hb hn (fr a b n.toNat + 1) a b _ hok (by omega) (TabR.new n L)
    have hfr := fr_le a b n.toNat
    have h4 := race_impl hb 20 (sd a b).1 (sd a b).2 (sd_two hok.1) (by rw [← sd_free]; exact hf) (by rw [sd_fr]; omega)
    rw [← sd_rv] at h4
    generalize rv n L a b = r at h3 h4
    exact ⟨r, 0, evB h1 (evT rfl (evB (table_spec n L ⟨b1.1, hn⟩) (evB h3 (evS _)))), evB h2 (evT rfl (evG (raceOf_eq a b ha16 hb16) (evB h4 (evS _))))⟩
theorem FnExactRaceResult (n : Int) (L : List Int) (a b : Int) (_ : (Lit.int .i64 n).wf = true) (hm : L.length ≤ maxLen) (_ : ∀ x ∈ L, (Lit.int .i64 x).wf = true) (_ : (Lit.int .i64 a).wf = true) (_ : (Lit.int .i64 b).wf = true) : Ev (fun k => laws_FnExactRaceResult.f k n L a b) true := by
  unfold laws_FnExactRaceResult.f
  by_cases h : L.length ≤ 1048576
  · obtain ⟨r, c, hs, hi⟩ := race_both n L a b h
    rw [szB_ok n L h]
    refine evG rfl (evF (by omega) (evB (toB n L h) (evB hs (evB (toB n L h) (evB hi (evT rfl ?_))))))
    refine evSucc (fun k => by rw [laws_FnExactRaceResult.j0]) ?_
    exact evF (by simp) (evB (toB n L h) (evB (eqB n L h) (evT rfl (evS _))))
  · rw [szB_big n L hm (by omega)]
    exact evG rfl (evT (by omega) (evS _))
end Go.Proofs.Ytjeiifiacjhfoaa.Pure
