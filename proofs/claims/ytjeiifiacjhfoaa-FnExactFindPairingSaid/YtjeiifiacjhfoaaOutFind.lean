/-
  impl.FindPairing: the code and the pairs. Boards of fewer than 1,000 lines.
-/
import Derived.Test.YtjeiifiacjhfoaaOutPairLines
import Derived.Test.YtjeiifiacjhfoaaQ1
namespace Go.Proofs.Ytjeiifiacjhfoaa.Q
open Go.RowKit Go.Proofs.YtjeiifiacjhfoaaW.PrintWords Go.Proofs.YtjeiifiacjhfoaaW.PrintLast Go.Proofs.YtjeiifiacjhfoaaW.PrintMore

def findI (k : Nat) (n : Int) (L : List Int) : Option (List (Int × Int) × Int) :=
  (impl_IsBoard.f k n L).bind fun ib => if ib = true then (if L.length < 1000 then (pairF L [] 0).bind fun r => if r.2 = true then some (r.1, 0) else some ([], 4) else none) else some ([], 1)
set_option linter.unusedSimpArgs false
set_option maxRecDepth 100000
set_option maxHeartbeats 4000000 in
theorem findI_calls (k : Nat) (n : Int) (A : Option Addr) (c : Nat) (L : List Int) (r : List (Int × Int)) (code : Int) (w : World) (hl : Kd.C (Kd.int .i64) w A L.length L) (hc : L.length ≤ c) (h : findI k n L = some (r, code)) :
    Calls Try.prog 35 #[.agg #[.int .i64 n, .slice A L.length c]] w fun e w' => ∃ v bs, e = .returned (.tuple #[v, .int .i64 code]) ∧ (∃ A' c', v = .slice A' r.length c') ∧ Prs w.heap.size w' v bs r ∧ Below w.heap.size w w' := by
  unfold findI at h
  obtain ⟨ib, hib, h⟩ := Option.bind_eq_some_iff.1 h
  have HIB := Aside0.mk hib
  have HL := Aside0.mk hl
  have hu := Try.underlying27
  clear hib hl
  generalize hw1 : w.alloc (.cells #[.int .i64 n, .slice A L.length c] 27) = w1
  have HB1 : Aside0 (Below w.heap.size w w1) := ⟨by rw [← hw1]; exact (Below.refl _ _).alloc (Nat.le_refl _) _⟩
  have HK1 : Aside0 (w1.heap[w.heap.size]? = some (.cells #[.int .i64 n, .slice A L.length c] 27 (0, 0))) := ⟨by rw [← hw1]; simpa using heap_alloc_new w (.cells #[.int .i64 n, .slice A L.length c] 27)⟩
  have hc0 : w1.cell? ⟨w.heap.size, 0, none⟩ = some (.int .i64 n) := blk_cell HK1.out 0
  have hc1 : w1.cell? ⟨w.heap.size, 1, none⟩ = some (.slice A L.length c) := blk_cell HK1.out 1
  by_cases ci : ib = true
  rotate_left
  · rw [if_neg ci] at h
    obtain ⟨rfl, rfl⟩ : [] = r ∧ 1 = code := by simpa using h
    have hib : ib = false := by simpa using ci
    subst hib
    go_enter Try.func35, Try.ntmps35
    go_wp2_with (go_at_call 18; refine (impl_IsBoard.calls k n A c L false _ (Kd.C_below HL.out HB1.out) hc HIB.out).mono ?_; rintro e w2 ⟨rfl, hb2⟩; have HB2 := Aside0.mk (below_then HB1.out HB1.out.size hb2))
    go_ret2
    exact ⟨_, [], rfl, ⟨_, _, rfl⟩, Prs.nil _ _, HB2.out⟩
  rw [if_pos ci] at h
  subst ci
  split at h
  rotate_left
  · cases h
  rename_i hll
  obtain ⟨⟨qr, qok⟩, hq, h⟩ := Option.bind_eq_some_iff.1 h
  have HN : Aside0 (∀ W, Aside0 (Below w.heap.size w W) → Calls Try.prog 71 #[.slice A L.length c, .slice none 0 0, .int .i64 0] W (PairPost w.heap.size W qr qok)) := ⟨fun W hW => pair_calls L [] 0 qr qok w.heap.size [] A c none 0 W (Kd.C_below HL.out hW.out) hc (Prs.nil _ _) hW.out.size (by simpa using hll) hq⟩
  have HH := Aside0.mk h
  clear hq h
  go_enter Try.func35, Try.ntmps35
  cases qok with
  | true =>
    obtain ⟨hr, hcd⟩ : qr = r ∧ 0 = code := by simpa using HH.out
    subst hr hcd
    clear HH
    go_wp2_with (first
      | (go_at_call 18; refine (impl_IsBoard.calls k n A c L true _ (Kd.C_below HL.out HB1.out) hc HIB.out).mono ?_; rintro e w2 ⟨rfl, hb2⟩; have HB2 := Aside0.mk (below_then HB1.out HB1.out.size hb2); have hd1 : w2.cell? ⟨w.heap.size, 1, none⟩ = some (.slice A L.length c) := blk_cell (blk_below HK1.out hb2) 1; clear hb2)
      | (go_at_call 71; refine (HN.out _ HB2).mono ?_; rintro e w3 ⟨v, rfl, hq, hb3⟩; have HB3 := Aside0.mk (below_then HB2.out HB2.out.size hb3); have HQ3 := Aside0.mk hq; clear hq hb3))
    go_ret2
    obtain ⟨bs, c', A', e1, hp⟩ := HQ3.out
    exact ⟨v, bs, rfl, ⟨A', c', e1⟩, hp, HB3.out⟩
  | false =>
    obtain ⟨hr, hcd⟩ : [] = r ∧ 4 = code := by simpa using HH.out
    subst hr hcd
    clear HH
    go_wp2_with (first
      | (go_at_call 18; refine (impl_IsBoard.calls k n A c L true _ (Kd.C_below HL.out HB1.out) hc HIB.out).mono ?_; rintro e w2 ⟨rfl, hb2⟩; have HB2 := Aside0.mk (below_then HB1.out HB1.out.size hb2); have hd1 : w2.cell? ⟨w.heap.size, 1, none⟩ = some (.slice A L.length c) := blk_cell (blk_below HK1.out hb2) 1; clear hb2)
      | (go_at_call 71; refine (HN.out _ HB2).mono ?_; rintro e w3 ⟨v, rfl, hq, hb3⟩; have HB3 := Aside0.mk (below_then HB2.out HB2.out.size hb3); clear hq hb3))
    go_ret2
    exact ⟨_, [], rfl, ⟨_, _, rfl⟩, Prs.nil _ _, HB3.out⟩
end Go.Proofs.Ytjeiifiacjhfoaa.Q
