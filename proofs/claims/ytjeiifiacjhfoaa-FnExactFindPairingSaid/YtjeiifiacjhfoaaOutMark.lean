/-
  laws.markInt64SS: the rows that lie apart are marked one by one. The rows' blocks lie at or behind 'base'; what lies before stays.
-/
import Derived.Test.YtjeiifiacjhfoaaQ1
import Derived.Test.YtjeiifiacjhfoaaHofRows
namespace Go.Proofs.Ytjeiifiacjhfoaa.Q
open Go.RowKit Go.Proofs.YtjeiifiacjhfoaaW.PrintWords Go.Proofs.YtjeiifiacjhfoaaW.PrintLast Go.Proofs.YtjeiifiacjhfoaaW.PrintMore

def laws_markInt64SS.l0 : Nat → List (List Int) → Int → Int → Option (Int × List (List Int))
  | 0, _, _, _ => none
  | k + 1, x0, x1, x5 => if x5 < (x0.length : Int) then if 0 ≤ x5 then (laws_markInt64S.f k (rdRow x0 x5) x1).bind fun z => laws_markInt64SS.l0 k (x0.set x5.toNat z.2) z.1 (wrap64 (x5 + 1)) else none else some (x1, x0)
def laws_markInt64SS.f (k : Nat) (l0 : List (List Int)) (a1 : Int) : Option (Int × List (List Int)) := laws_markInt64SS.l0 k l0 a1 0
theorem laws_markInt64SS.mono_l : ∀ k x0 x1 x5, LeO (laws_markInt64SS.l0 k x0 x1 x5) (laws_markInt64SS.l0 (k + 1) x0 x1 x5) := by
  intro k
  induction k with
  | zero => intro x0 x1 x5 r h; cases h
  | succ k ih =>
    intro x0 x1 x5
    simp only [laws_markInt64SS.l0]
    exact LeO.ite (LeO.ite (LeO.bind (laws_markInt64S.mono _ _ _) (fun z => ih _ _ _)) (LeO.refl _)) (LeO.refl _)
theorem laws_markInt64SS.mono : ∀ a0 a1 k, LeO (laws_markInt64SS.f k a0 a1) (laws_markInt64SS.f (k + 1) a0 a1) := fun _ _ k => laws_markInt64SS.mono_l k _ _ _
/-- The world's beginning. -/
def cutW (w : World) (base : Nat) : World := { w with heap := w.heap.extract 0 base }
theorem cut_below (w : World) (base : Nat) (h : base ≤ w.heap.size) : (cutW w base).heap.size = base ∧ Below base (cutW w base) w := by
  have e : (cutW w base).heap.size = base := by simp [cutW, h]
  refine ⟨e, ⟨rfl, rfl, rfl, by rw [e]; exact h, fun k hk => ?_⟩⟩
  show w.heap[k]? = (w.heap.extract 0 base)[k]?
  rw [Array.getElem?_extract]
  simp
  omega
/-- One row marked. -/
theorem mark_one (k : Nat) (base : Nat) (A : Option Addr) (n c : Nat) (xs : List (List Int)) (m i : Int) (r1 : Int) (r2 : List Int) (w : World) (hS : Kd.S (Kd.slice 2 (Kd.int .i64)) 22 w base (fun _ => True) (.slice A n c) xs) (hbase : base ≤ w.heap.size) (h0 : 0 ≤ i) (h1 : i < n)
    (h : laws_markInt64S.f k (rdRow xs i) m = some (r1, r2)) :
    ∃ (ad : Addr) (v : Value), A = some ad ∧ w.cell? (ad.add i.toNat) = some v ∧ Calls Try.prog 30 #[v, .int .i64 m] w fun e w' => e = .returned (.int .i64 r1) ∧ Kd.S (Kd.slice 2 (Kd.int .i64)) 22 w' base (fun _ => True) (.slice A n c) (xs.set i.toNat r2) ∧ Below base w w' := by
  have hn := (Kd.S_reads' hS).1
  obtain ⟨g, cap, e, _, _, _⟩ := Kd.S_form hS (by omega)
  obtain ⟨rfl, rfl, rfl⟩ : A = some ⟨g, 0, none⟩ ∧ n = xs.length ∧ c = cap := by simpa using e
  obtain ⟨oki, cs, hcl, hM, hcc, hoki, hH⟩ := Kd.S_lend hS ([] : List Int) i h0 h1
  obtain ⟨v, rfl, hR⟩ := hM
  obtain ⟨e1, e2⟩ := cut_below w base hbase
  have hR0 : Kd.R (Kd.int .i64) 2 w (cutW w base).heap.size (fun k => some k = v.ownBlock) v (rdRow xs i) := by rw [e1]; exact Kd.R_tight rfl hR
  refine ⟨⟨g, 0, none⟩, v, rfl, ?_, (laws_markInt64S.calls k (fun k => some k = v.ownBlock) v (rdRow xs i) m r1 r2 (cutW w base) w (by rw [e1]; exact e2) hR0 h).mono ?_⟩
  · have hq : w.cell? ⟨g, i.toNat * 1 + 0, none⟩ = some v := hcc 0 v rfl
    have e3 : (⟨g, 0, none⟩ : Addr).add i.toNat = ⟨g, i.toNat, none⟩ := by
      unfold Addr.add
      split
      · rename_i h0
        rw [h0]
      · simp
    rw [e3]
    simpa using hq
  · rintro e w' ⟨rfl, hR', hB', hK⟩
    rw [e1] at hR' hB'
    refine ⟨rfl, ?_, ?_⟩
    · have hH2 := Kd.H_step (w1 := w') hH (fun k _ hn hlt => hK.2 k hlt (fun hk => hn (hR.1 k hk.symm)))
      refine Kd.H_back hH2 (x' := r2) (okp := oki) ⟨v, rfl, ?_⟩ (fun _ hk => hk)
      exact Kd.R_mono (Kd.R_tight rfl hR') (fun k hk => hR.1 k hk.symm)
    · exact ⟨hB'.os, hB'.tape, hB'.output, hK.1, fun k hk => (hB'.block k hk).trans (e2.block k hk).symm⟩

set_option maxHeartbeats 4000000 in
set_option maxRecDepth 100000 in
theorem laws_markInt64SS.calls (k : Nat) (base : Nat) (A : Option Addr) (c : Nat) (l0 : List (List Int)) (a1 : Int) (r1 : Int) (r2 : List (List Int)) (w : World) (hS : Kd.S (Kd.slice 2 (Kd.int .i64)) 22 w base (fun _ => True) (.slice A l0.length c) l0) (hbase : base ≤ w.heap.size) (h : laws_markInt64SS.f k l0 a1 = some (r1, r2)) :
    Calls Try.prog 37 #[.slice A l0.length c, .int .i64 a1] w fun e w' => e = .returned (.int .i64 r1) ∧ Kd.S (Kd.slice 2 (Kd.int .i64)) 22 w' base (fun _ => True) (.slice A l0.length c) r2 ∧ Below base w w' := by
  have H' : Aside0 (laws_markInt64SS.l0 k l0 a1 0 = some (r1, r2)) := ⟨h⟩
  have HS0 := Aside0.mk hS
  generalize hn : l0.length = n at *
  clear hS h
  go_enter Try.func37, Try.ntmps37
  go_wp2
  go_loopg [1, 5] k (fun kq v1 v5 w' => ∃ (m i : Int) (xs : List (List Int)), v1 = .int .i64 m ∧ v5 = .int .i64 i ∧ Aside0 (laws_markInt64SS.l0 kq xs m i = some (r1, r2)) ∧ Aside0 (xs.length = n) ∧ Aside0 (Kd.S (Kd.slice 2 (Kd.int .i64)) 22 w' base (fun _ => True) (.slice A n c) xs) ∧ Aside0 (Below base w w'))
  case atStart => exact ⟨a1, 0, l0, rfl, rfl, H', ⟨hn⟩, HS0, ⟨rfl, rfl, rfl, Nat.le_refl _, fun _ _ => rfl⟩⟩
  case round =>
    clear H' HS0
    obtain ⟨m, i, xs, rfl, rfl, HA, HL, HS, HB⟩ := hrel
    cases gk with
    | zero => exact absurd HA.out (by simp [laws_markInt64SS.l0])
    | succ k1 =>
      have H := HA.out
      clear HA
      simp only [laws_markInt64SS.l0] at H
      rw [HL.out] at H
      by_cases c3 : i < (n : Int)
      · rw [if_pos c3] at H
        by_cases c4 : 0 ≤ i
        · rw [if_pos c4] at H
          obtain ⟨z, hz, H⟩ := Option.bind_eq_some_iff.1 H
          have H2 := Aside0.mk H
          obtain ⟨ad, v, rfl, hcell, hcall⟩ := mark_one k1 base A n c xs m i z.1 z.2 wr HS.out (by have := HB.out.size; omega) c4 c3 hz
          have HC := Aside0.mk hcall
          clear H hz hcall
          go_wp2_with (go_at_call 30; refine HC.out.mono ?_; rintro e w2 ⟨rfl, hS2, hB2⟩)
          go_roundg k1
          case measure => omega
          case rel => exact ⟨z.1, wrap64 (i + 1), xs.set i.toNat z.2, rfl, rfl, H2, ⟨by rw [List.length_set]; exact HL.out⟩, ⟨hS2⟩, ⟨⟨hB2.os.trans HB.out.os, hB2.tape.trans HB.out.tape, hB2.output.trans HB.out.output, Nat.le_trans HB.out.size hB2.size, fun k hk => (hB2.block k hk).trans (HB.out.block k hk)⟩⟩⟩
        · rw [if_neg c4] at H
          cases H
      · rw [if_neg c3] at H
        simp only [Option.some.injEq, Prod.mk.injEq] at H
        obtain ⟨rfl, rfl⟩ := H
        go_wp2
        go_ret
        exact ⟨rfl, HS.out, HB.out⟩
end Go.Proofs.Ytjeiifiacjhfoaa.Q
