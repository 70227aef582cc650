/-
  The reference's l03Behind, by what is told of l03Score: the two call each other. Its contract out of the other's.
-/
import Derived.Test.YtelfllbjcpndfaaQ2
import Derived.Test.YtelfllbjcpndfaaQ0
namespace Go.Proofs.Ytelfllbjcpndfaa.Q
open Go.RowKit Go.Proofs.YtelfllbjcpndfaaW.PrintWords Go.Proofs.YtelfllbjcpndfaaW.PrintLast Go.Proofs.YtelfllbjcpndfaaW.PrintMore

def spec_l03Behind.F (S : Int → Int → Int → List Int → List Int → Option (Int × List Int)) (k : Nat) (b0 b1 b2 e : Int) (l2 l3 : List Int) : Option (Int × List Int) :=
  (spec_l03Move.f k b0 b1 b2 e).bind fun m => (S m.1 m.2.1 m.2.2.1 l2 l3).bind fun n => some (if m.2.2.2 > 0 then (wrap64 (m.2.2.2 + n.1), n.2) else (wrap64 (-n.1), n.2))
theorem spec_l03Behind.F_mono {S S' : Int → Int → Int → List Int → List Int → Option (Int × List Int)} (h : ∀ y0 y1 y2 y3 y4, LeO (S y0 y1 y2 y3 y4) (S' y0 y1 y2 y3 y4)) : ∀ a0 a1 a2 a3 a4 a5 k, LeO (spec_l03Behind.F S k a0 a1 a2 a3 a4 a5) (spec_l03Behind.F S' (k + 1) a0 a1 a2 a3 a4 a5) := by
  intro a0 a1 a2 a3 a4 a5 k
  exact LeO.bind (spec_l03Move.mono _ _ _ _ k) (fun m => LeO.bind (h _ _ _ _ _) (fun n => LeO.refl _))
set_option linter.unusedVariables false
set_option linter.unusedSimpArgs false
set_option maxRecDepth 100000
set_option maxHeartbeats 4000000 in
theorem spec_l03Behind.F_calls (k : Nat) (S : Int → Int → Int → List Int → List Int → Option (Int × List Int))
    (ih : ∀ (a0_0 : Int) (a0_1 : Int) (a0_2 : Int) (A1 : Option Addr) (c1 : Nat) (l1 : List Int) (P2_ : Nat → Prop) (u9000_ : Value) (l2 : List Int) (r1 : Int) (r2 : List Int) (w0 w : World) (hB : Below w0.heap.size w0 w) (hr1 : ∀ W_, Kept w W_ (fun k_ => P2_ k_) → Kd.C (Kd.int .i64) W_ A1 l1.length l1) (hc1 : l1.length ≤ c1) (ho2 : Kd.R (Kd.int .i64) 2 w w0.heap.size P2_ u9000_ l2) (h : S a0_0 a0_1 a0_2 l1 l2 = some (r1, r2)),
      Calls Try.prog 25 #[.agg #[.int .i64 a0_0, .int .i64 a0_1, .int .i64 a0_2], .slice A1 l1.length c1, u9000_] w fun e w' => e = .returned (.int .i64 r1) ∧ Kd.R (Kd.int .i64) 2 w' w0.heap.size (fun k_ => (P2_ k_ ∨ w.heap.size ≤ k_)) u9000_ r2 ∧ Below w0.heap.size w0 w' ∧ Kept w w' (fun k_ => P2_ k_))
    (b0 b1 b2 e : Int) (A2 : Option Addr) (c2 : Nat) (l2 : List Int) (P3_ : Nat → Prop) (u9000_ : Value) (l3 : List Int) (r1 : Int) (r2 : List Int) (w0 w : World) (hB : Below w0.heap.size w0 w) (hr2 : ∀ W_, Kept w W_ (fun k_ => P3_ k_) → Kd.C (Kd.int .i64) W_ A2 l2.length l2) (hc2 : l2.length ≤ c2) (ho3 : Kd.R (Kd.int .i64) 2 w w0.heap.size P3_ u9000_ l3) (h : spec_l03Behind.F S k b0 b1 b2 e l2 l3 = some (r1, r2)) :
    Calls Try.prog 53 #[.agg #[.int .i64 b0, .int .i64 b1, .int .i64 b2], .int .i64 e, .slice A2 l2.length c2, u9000_] w fun e w' => e = .returned (.int .i64 r1) ∧ Kd.R (Kd.int .i64) 2 w' w0.heap.size (fun k_ => (P3_ k_ ∨ w.heap.size ≤ k_)) u9000_ r2 ∧ Below w0.heap.size w0 w' ∧ Kept w w' (fun k_ => P3_ k_) := by
  obtain ⟨⟨m0, m1, m2, y⟩, hm, h⟩ := Option.bind_eq_some_iff.1 h
  obtain ⟨⟨n1, n2⟩, hn, h⟩ := Option.bind_eq_some_iff.1 h
  have HM := Aside0.mk hm
  have HQ := Aside0.mk hn
  have HF := Aside0.mk ih
  have HB := Aside0.mk hB
  have HR := Aside0.mk hr2
  have HO := Aside0.mk ho3
  have hu := Try.underlying25
  generalize hw1 : w.alloc (.cells #[.int .i64 b0, .int .i64 b1, .int .i64 b2] 25) = w1
  have HB1 : Aside0 (Below w.heap.size w w1) := ⟨by rw [← hw1]; exact (Below.refl _ _).alloc (Nat.le_refl _) _⟩
  have hblk : w1.heap[w.heap.size]? = some (.cells #[.int .i64 b0, .int .i64 b1, .int .i64 b2] 25 (0, 0)) := by rw [← hw1]; simpa using heap_alloc_new w (.cells #[.int .i64 b0, .int .i64 b1, .int .i64 b2] 25)
  have hc0 : w1.cell? ⟨w.heap.size, 0, none⟩ = some (.int .i64 b0) := blk_cell hblk 0
  have hc1 : w1.cell? ⟨w.heap.size, 1, none⟩ = some (.int .i64 b1) := blk_cell hblk 1
  have hc2' : w1.cell? ⟨w.heap.size, 2, none⟩ = some (.int .i64 b2) := blk_cell hblk 2
  obtain ⟨A3, c3, rfl, hl3, _⟩ := Kd.R_reads ho3
  clear hm hn ih hblk hB hr2 ho3
  have fin : ∀ (w2 w4 : World) (hb2 : Below w1.heap.size w1 w2) (hb4 : Below w2.heap.size w2 w4), Below w.heap.size w w4 := fun w2 w4 hb2 hb4 => below_then (below_then HB1.out HB1.out.size hb2) (Nat.le_trans HB1.out.size hb2.size) hb4
  have HFIN := Aside0.mk fin
  clear fin
  by_cases c : y > 0
  · simp only [if_pos c, Option.some.injEq, Prod.mk.injEq] at h
    obtain ⟨rfl, rfl⟩ := h
    have hy : decide (y > 0) = true := by simpa using c
    go_enter Try.func53, Try.ntmps53
    go_wp2_with (first
      | (go_at_call 30; refine (spec_l03Move.calls k b0 b1 b2 e m0 m1 m2 y _ HM.out).mono ?_; rintro e w2 ⟨rfl, hb2⟩)
      | (go_at_call 25; refine (HF.out m0 m1 m2 A2 c2 l2 P3_ _ l3 n1 n2 w0 _ (below_then HB.out HB.out.size (HFIN.out _ _ hb2 (below_alloc (Below.refl _ _) _))) (fun W_ hk => HR.out W_ (Kept.then_ (Kept.of_below (HFIN.out _ _ hb2 (below_alloc (Below.refl _ _) _)) _) hk (fun k hk => .inl hk))) hc2 (Kd.R_below HO.out (HFIN.out _ _ hb2 (below_alloc (Below.refl _ _) _))) HQ.out).mono ?_; rintro e w4 ⟨rfl, ho4, hb4, hk4⟩))
    go_ret
    have hall := HFIN.out _ _ hb2 (below_alloc (Below.refl _ _) (.cells #[.int .i64 m0, .int .i64 m1, .int .i64 m2] 25))
    exact ⟨rfl, Kd.R_mono ho4 (fun k hk => hk.imp id (fun c => Nat.le_trans hall.size c)), hb4, Kept.then_ (Kept.of_below hall _) hk4 (fun k hk => .inl hk)⟩
  · simp only [if_neg c, Option.some.injEq, Prod.mk.injEq] at h
    obtain ⟨rfl, rfl⟩ := h
    have hy : decide (y > 0) = false := by simpa using c
    go_enter Try.func53, Try.ntmps53
    go_wp2_with (first
      | (go_at_call 30; refine (spec_l03Move.calls k b0 b1 b2 e m0 m1 m2 y _ HM.out).mono ?_; rintro e w2 ⟨rfl, hb2⟩)
      | (go_at_call 25; refine (HF.out m0 m1 m2 A2 c2 l2 P3_ _ l3 n1 n2 w0 _ (below_then HB.out HB.out.size (HFIN.out _ _ hb2 (below_alloc (Below.refl _ _) _))) (fun W_ hk => HR.out W_ (Kept.then_ (Kept.of_below (HFIN.out _ _ hb2 (below_alloc (Below.refl _ _) _)) _) hk (fun k hk => .inl hk))) hc2 (Kd.R_below HO.out (HFIN.out _ _ hb2 (below_alloc (Below.refl _ _) _))) HQ.out).mono ?_; rintro e w4 ⟨rfl, ho4, hb4, hk4⟩))
    go_ret
    have hall := HFIN.out _ _ hb2 (below_alloc (Below.refl _ _) (.cells #[.int .i64 m0, .int .i64 m1, .int .i64 m2] 25))
    exact ⟨rfl, Kd.R_mono ho4 (fun k hk => hk.imp id (fun c => Nat.le_trans hall.size c)), hb4, Kept.then_ (Kept.of_below hall _) hk4 (fun k hk => .inl hk)⟩
end Go.Proofs.Ytelfllbjcpndfaa.Q
