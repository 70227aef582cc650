/-
  RaceResult and BestNodes: the code, or the result, or the best nodes; told as the printed functions are.
-/
import Derived.Test.YtbmkhdeeengbmaaRace
import Derived.Test.YtbmkhdeeengbmaaQ6
import Derived.Test.YtbmkhdeeengbmaaQ3
namespace Go.Proofs.Ytbmkhdeeengbmaa.Q
open Go.RowKit Go.Proofs.YtbmkhdeeengbmaaW.PrintWords Go.Proofs.YtbmkhdeeengbmaaW.PrintLast Go.Proofs.YtbmkhdeeengbmaaW.PrintMore
open Go.Maps (Keyed)

def impl_RaceResult.f (k : Nat) (n : Int) (L : List Int) (a b : Int) : Option (Int × Int) := (impl_raceCode.f k n L a b).bind fun c => if c = 0 then (impl_raceOf.f a b).bind fun s => (raceF k n L 20 s.1 s.2).bind fun r => some (r, 0) else some (0, c)
theorem impl_RaceResult.mono : ∀ a0 a1 a2 a3 k, LeO (impl_RaceResult.f k a0 a1 a2 a3) (impl_RaceResult.f (k + 1) a0 a1 a2 a3) := by
  intro a0 a1 a2 a3 k
  exact LeO.bind (impl_raceCode.mono _ _ _ _ k) (fun c => LeO.ite (LeO.bind (LeO.refl _) (fun s => LeO.bind (raceF_mono _ _ _ k _ _) (fun r => LeO.refl _))) (LeO.refl _))
def impl_BestNodes.f (k : Nat) (n : Int) (L : List Int) (a b : Int) : Option (List Int × Int) := (impl_raceCode.f k n L a b).bind fun c => if c = 0 then (impl_raceOf.f a b).bind fun s => (bestF k n L 20 s.1 s.2).bind fun l => some (l, 0) else some (([] : List Int), c)
theorem impl_BestNodes.mono : ∀ a0 a1 a2 a3 k, LeO (impl_BestNodes.f k a0 a1 a2 a3) (impl_BestNodes.f (k + 1) a0 a1 a2 a3) := by
  intro a0 a1 a2 a3 k
  exact LeO.bind (impl_raceCode.mono _ _ _ _ k) (fun c => LeO.ite (LeO.bind (LeO.refl _) (fun s => LeO.bind (bestF_mono _ _ _ _ _ _) (fun r => LeO.refl _))) (LeO.refl _))

set_option linter.unusedSimpArgs false
set_option maxRecDepth 100000
set_option maxHeartbeats 4000000 in
theorem impl_RaceResult.calls (k : Nat) (n : Int) (A : Option Addr) (cap : Nat) (L : List Int) (p q r1 r2 : Int) (w : World) (hC : Kd.C (Kd.int .i64) w A L.length L) (hc : L.length ≤ cap) (h : impl_RaceResult.f k n L p q = some (r1, r2)) :
    Calls Try.prog 6 #[.agg #[.int .i64 n, .slice A L.length cap], .int .i64 p, .int .i64 q] w fun e w' => e = .returned (.tuple #[.int .i64 r1, .int .i64 r2]) ∧ Below w.heap.size w w' := by
  unfold impl_RaceResult.f at h
  obtain ⟨c, hcd, h⟩ := Option.bind_eq_some_iff.1 h
  generalize hw1 : w.alloc (.cells #[.int .i64 n, .slice A L.length cap] 26) = w1
  have HK := heldB_new hw1 hC
  obtain ⟨hc0, hc1, _⟩ := HK.out.cells
  have hu := Try.underlying26
  have hu2 := Try.underlying46
  have HC := Aside0.mk hcd
  have HCAP := Aside0.mk hc
  clear hcd hC hc
  by_cases e : c = 0
  · rw [if_pos e] at h
    subst e
    obtain ⟨⟨s1, s2⟩, hs, h⟩ := Option.bind_eq_some_iff.1 h
    obtain ⟨x, hx, h⟩ := Option.bind_eq_some_iff.1 h
    simp only [Option.some.injEq, Prod.mk.injEq] at h
    obtain ⟨rfl, rfl⟩ := h
    have HX := Aside0.mk hx
    have HS2 := Aside0.mk hs
    clear hx hs
    go_enter Try.func6, Try.ntmps6
    go_wp2_with (first
      | (go_at_call 20; refine (impl_raceCode.calls k n A cap L p q 0 _ (heldB_row HK) HCAP.out HC.out).mono ?_; rintro e w2 ⟨rfl, hb2⟩; have HK2 := Aside0.mk (heldB_below HK hb2); obtain ⟨hd0, hd1, _⟩ := HK2.out.cells; have hsz : w.heap.size ≤ w2.heap.size := HK2.out.2.1.size)
      | (go_at_call 21; refine (results_calls k n A cap L _ (heldB_row HK2)).mono ?_; rintro e w3 ⟨qk, qb, qf, b, rfl, he3, hb3, hlt⟩; unfold fnR; have HK3 := Aside0.mk (heldB_below HK2 hb3))
      | (go_at_call 22; refine (impl_raceOf.calls p q s1 s2 _ HS2.out).mono ?_; rintro e w4 ⟨rfl, hb4⟩; have HK4 := Aside0.mk (heldB_below HK3 hb4))
      | (go_at_call 45; refine (race_at k n A cap L HCAP.out 20 s1 s2 x _ qk qb qf b (he3.below hb4) HX.out).mono ?_; rintro e w5 ⟨rfl, he5, hg5⟩))
    go_ret2
    exact ⟨rfl, (heldB_then HK4 hg5 (he3.below hb4).memo (Nat.le_trans hsz hlt)).2.1⟩
  · rw [if_neg e] at h
    simp only [Option.some.injEq, Prod.mk.injEq] at h
    obtain ⟨rfl, rfl⟩ := h
    have hne : (c != 0) = true := by simpa using e
    go_enter Try.func6, Try.ntmps6
    go_wp2_with (go_at_call 20; refine (impl_raceCode.calls k n A cap L p q c _ (heldB_row HK) HCAP.out HC.out).mono ?_; rintro e w2 ⟨rfl, hb2⟩)
    go_ret2
    exact ⟨rfl, (heldB_below HK hb2).2.1⟩

set_option linter.unusedSimpArgs false
set_option maxRecDepth 100000
set_option maxHeartbeats 4000000 in
theorem impl_BestNodes.calls (k : Nat) (n : Int) (A : Option Addr) (cap : Nat) (L : List Int) (p q : Int) (r1 : List Int) (r2 : Int) (w : World) (hC : Kd.C (Kd.int .i64) w A L.length L) (hc : L.length ≤ cap) (h : impl_BestNodes.f k n L p q = some (r1, r2)) :
    Calls Try.prog 8 #[.agg #[.int .i64 n, .slice A L.length cap], .int .i64 p, .int .i64 q] w fun e w' => ∃ v0_ : Value, e = .returned (.tuple #[v0_, .int .i64 r2]) ∧ Kd.R (Kd.int .i64) 2 w' w.heap.size (fun _ => True) v0_ r1 ∧ Below w.heap.size w w' := by
  unfold impl_BestNodes.f at h
  obtain ⟨c, hcd, h⟩ := Option.bind_eq_some_iff.1 h
  generalize hw1 : w.alloc (.cells #[.int .i64 n, .slice A L.length cap] 26) = w1
  have HK := heldB_new hw1 hC
  obtain ⟨hc0, hc1, _⟩ := HK.out.cells
  have hu := Try.underlying26
  have hu2 := Try.underlying46
  have HC := Aside0.mk hcd
  have HCAP := Aside0.mk hc
  clear hcd hC hc
  by_cases e : c = 0
  · rw [if_pos e] at h
    subst e
    obtain ⟨⟨s1, s2⟩, hs, h⟩ := Option.bind_eq_some_iff.1 h
    obtain ⟨l, hl, h⟩ := Option.bind_eq_some_iff.1 h
    simp only [Option.some.injEq, Prod.mk.injEq] at h
    obtain ⟨rfl, rfl⟩ := h
    have HL := Aside0.mk hl
    have HS2 := Aside0.mk hs
    clear hl hs
    go_enter Try.func8, Try.ntmps8
    go_wp2_with (go_at_call 20; refine (impl_raceCode.calls k n A cap L p q 0 _ (heldB_row HK) HCAP.out HC.out).mono ?_; rintro e w2 ⟨rfl, hb2⟩)
    have HK2 := Aside0.mk (heldB_below HK hb2)
    obtain ⟨hd0, hd1, HS⟩ := HK2.out.cells
    have hsz : w.heap.size ≤ w2.heap.size := HS.out.2.1.size
    go_region_held3 (fun w' => w'.cell? ⟨w.heap.size, 0, none⟩ = some (.int .i64 n) ∧ w'.cell? ⟨w.heap.size, 1, none⟩ = some (.slice A L.length cap) ∧ Aside0 (HeldB w n A cap L w'))
      (first
        | exact HS.out.drew.cells
        | (go_split_ands; exact (heldB_then (by assumption) hg5 he3.memo hwb).cells)
        | (go_split_ands; exact (heldB_below (by assumption) hb3).cells)
        | (go_split_ands; exact (heldB_below (by assumption) hb4).cells))
      (first
        | (go_at_call 21; go_split_ands; refine (results_calls k n A cap L _ (heldB_row (by assumption))).mono ?_; rintro e w3 ⟨qk, qb, qf, b, rfl, he3, hb3, hlt⟩; have hwb : w.heap.size ≤ b := Nat.le_trans (heldB_b (by assumption)).size hlt; unfold fnR)
        | (go_at_call 22; refine (impl_raceOf.calls p q s1 s2 _ HS2.out).mono ?_; rintro e w4 ⟨rfl, hb4⟩)
        | (go_at_call 26; go_split_ands; refine (bestNodes_calls k n A cap L HCAP.out 20 s1 s2 l w _ qk qb qf b he3 (heldB_b (by assumption)) hwb HL.out).mono ?_; rintro e w5 ⟨v5, rfl, ho5, he5, hg5⟩))
    go_wp2
    go_ret2
    rename_i hH
    exact ⟨_, rfl, Kd.R_mono ho5 (fun _ _ => trivial), hH.2.2.out.2.1⟩
  · rw [if_neg e] at h
    simp only [Option.some.injEq, Prod.mk.injEq] at h
    obtain ⟨rfl, rfl⟩ := h
    have hne : (c != 0) = true := by simpa using e
    go_enter Try.func8, Try.ntmps8
    go_wp2_with (go_at_call 20; refine (impl_raceCode.calls k n A cap L p q c _ (heldB_row HK) HCAP.out HC.out).mono ?_; rintro e w2 ⟨rfl, hb2⟩)
    go_ret2
    exact ⟨_, rfl, Kd.R_nil _ _ _ _ _, (heldB_below HK hb2).2.1⟩
end Go.Proofs.Ytbmkhdeeengbmaa.Q
