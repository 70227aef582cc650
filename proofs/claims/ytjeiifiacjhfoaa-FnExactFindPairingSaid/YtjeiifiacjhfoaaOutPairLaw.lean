/-
  The law FnExactFindPairing itself, told as the printed functions are: both sides' pairs, compared, marked, and compared anew. Boards of fewer than 1,000 lines.
-/
import Derived.Test.YtjeiifiacjhfoaaOutMark
import Derived.Test.YtjeiifiacjhfoaaOutFind
import Derived.Test.YtjeiifiacjhfoaaOutFindS
import Derived.Test.YtjeiifiacjhfoaaQ1
namespace Go.Proofs.Ytjeiifiacjhfoaa.Q
open Go.RowKit Go.Proofs.YtjeiifiacjhfoaaW.PrintWords Go.Proofs.YtjeiifiacjhfoaaW.PrintLast Go.Proofs.YtjeiifiacjhfoaaW.PrintMore

def laws_FnExactFindPairing.f (k : Nat) (n : Int) (L : List Int) : Option Bool :=
  (laws_szBoard.f n L 1048576).bind fun z => if z < 0 then some true else
    (laws_toBoard.f k n L).bind fun x => if x = (n, L) then (findS k n L).bind fun sp => (findI k n L).bind fun g =>
      if laws_eqInt64SS.f k (g.1.map two) (sp.1.map two) = some true ∧ g.2 = sp.2 ∧ laws_eqBoard.f k n L n L = some true then (laws_markBoard.f k n L 1).bind fun mk => (laws_markInt64SS.f k (g.1.map two) 1).bind fun ms =>
        if 0 ≤ mk.1 ∧ 0 ≤ ms.1 ∧ laws_heldInt64SS.f k ms.2 1 = some ms.1 then some true else none
      else none else none
theorem laws_FnExactFindPairing.at_ {k : Nat} {n z code : Int} {L : List Int} {sp g : List (Int × Int)} {mk : Int} {ml : List Int} {ms : Int} {gl : List (List Int)} (hz : laws_szBoard.f n L 1048576 = some z) (h0 : ¬ z < 0)
    (hx : laws_toBoard.f k n L = some (n, L)) (hsp : findS k n L = some (sp, code)) (hg : findI k n L = some (g, code)) (he1 : laws_eqInt64SS.f k (g.map two) (sp.map two) = some true) (he2 : laws_eqBoard.f k n L n L = some true) (hmk : laws_markBoard.f k n L 1 = some (mk, ml)) (hm0 : 0 ≤ mk)
    (hms : laws_markInt64SS.f k (g.map two) 1 = some (ms, gl)) (hg0 : 0 ≤ ms) (hh : laws_heldInt64SS.f k gl 1 = some ms) : laws_FnExactFindPairing.f k n L = some true := by
  unfold laws_FnExactFindPairing.f
  simp only [hz, Option.bind_some, if_neg h0, hx, hsp, hg]
  rw [if_pos trivial, if_pos ⟨he1, trivial, he2⟩]
  simp only [hmk, hms, Option.bind_some]
  exact if_pos ⟨hm0, hg0, hh⟩
/-- What lies behind each step: the board, its variable. -/
structure PbS (A : Option Addr) (c : Nat) (n : Int) (L : List Int) (w0 w : World) : Prop where
  reads : Kd.C (Kd.int .i64) w A L.length L
  box : w.heap[w0.heap.size]? = some (.cells #[.int .i64 n, .slice A L.length c] 24 (0, 0))
  below : Below w0.heap.size w0 w
section
variable {A : Option Addr} {c : Nat} {n : Int} {L : List Int} {w0 w w' : World}
theorem PbS.step (h : Aside0 (PbS A c n L w0 w)) (hb : Below w.heap.size w w') : Aside0 (PbS A c n L w0 w') := ⟨Kd.C_below h.out.reads hb, blk_below h.out.box hb, below_then h.out.below h.out.below.size hb⟩
theorem PbS.cells (h : Aside0 (PbS A c n L w0 w)) : w.cell? ⟨w0.heap.size, 0, none⟩ = some (.int .i64 n) ∧ w.cell? ⟨w0.heap.size, 1, none⟩ = some (.slice A L.length c) ∧ Aside0 (PbS A c n L w0 w) := ⟨blk_cell h.out.box 0, blk_cell h.out.box 1, h⟩
theorem PbS.start (hr : Kd.C (Kd.int .i64) w A L.length L) {w1 : World} (h : w.alloc (.cells #[.int .i64 n, .slice A L.length c] 24) = w1) : Aside0 (PbS A c n L w w1) := by
  subst h
  have hb : Below w.heap.size w (w.alloc (.cells #[.int .i64 n, .slice A L.length c] 24)) := (Below.refl _ _).alloc (Nat.le_refl _) _
  exact ⟨Kd.C_below hr hb, heap_alloc_new w _, hb⟩
theorem pc_step {α : Type} {d : Kd α} {m : Nat} {xs : List α} (h : Aside0 (Kd.C d w A m xs)) (hb : Below w.heap.size w w') : Aside0 (Kd.C d w' A m xs) := ⟨Kd.C_below h.out hb⟩
end
/-- What the reference and the program leave, as rows. -/
def SpecRows (n : Int) (L : List Int) (S : List (List Int)) (code : Int) : Prop := ∀ (A : Option Addr) (c : Nat) (W : World), Kd.C (Kd.int .i64) W A L.length L → L.length ≤ c →
  Calls Try.prog 34 #[.agg #[.int .i64 n, .slice A L.length c]] W fun e w' => ∃ A' c', e = .returned (.tuple #[.slice A' S.length c', .int .i64 code]) ∧ Kd.C (Kd.slice 2 (Kd.int .i64)) w' A' S.length S ∧ S.length ≤ c' ∧ Below W.heap.size W w'
def ImplRows (n : Int) (L : List Int) (G : List (List Int)) (code : Int) : Prop := ∀ (A : Option Addr) (c : Nat) (W : World), Kd.C (Kd.int .i64) W A L.length L → L.length ≤ c →
  Calls Try.prog 35 #[.agg #[.int .i64 n, .slice A L.length c]] W fun e w' => ∃ A' c', e = .returned (.tuple #[.slice A' G.length c', .int .i64 code]) ∧ Kd.S (Kd.slice 2 (Kd.int .i64)) 22 w' W.heap.size (fun _ => True) (.slice A' G.length c') G ∧ Below W.heap.size W w'
theorem spec_rows {k : Nat} {n : Int} {L : List Int} {r : List (Int × Int)} {code : Int} (h : findS k n L = some (r, code)) : SpecRows n L (r.map two) code := fun A c W hl hc => by
  refine (findS_calls k n A c L r code W hl hc h).mono ?_
  rintro e w' ⟨v, bs, rfl, ⟨A', c', rfl⟩, hp, hb⟩
  obtain ⟨h1, h2, h3⟩ := hp.reads
  rw [List.length_map]
  exact ⟨A', c', rfl, h3, h2, hb⟩
theorem impl_rows {k : Nat} {n : Int} {L : List Int} {r : List (Int × Int)} {code : Int} (h : findI k n L = some (r, code)) : ImplRows n L (r.map two) code := fun A c W hl hc => by
  refine (findI_calls k n A c L r code W hl hc h).mono ?_
  rintro e w' ⟨v, bs, rfl, ⟨A', c', rfl⟩, hp, hb⟩
  rw [List.length_map]
  exact ⟨A', c', rfl, hp.apart, hb⟩
/-- A variable that is filled cell by cell. -/
theorem fill_two {w w2 : World} {g : Nat} {t : TypeId} (h : w.heap[g]? = some (.cells #[.int .i64 0, .slice none 0 0] t (0, 0))) (x y : Value) (e : w2 = (w.setCell ⟨g, 0, none⟩ x).setCell ⟨g, 1, none⟩ y) : w2.heap[g]? = some (.cells #[x, y] t (0, 0)) ∧ (∀ k, k ≠ g → w2.heap[k]? = w.heap[k]?) ∧ w2.heap.size = w.heap.size ∧ ∀ base w0, Below base w0 w → base ≤ g → Below base w0 w2 := by
  subst e
  refine ⟨blk_put (cs := #[x, .slice none 0 0]) (blk_put (cs := #[.int .i64 0, .slice none 0 0]) h 0 x rfl) 1 y rfl, fun k hk => ?_, by simp [World.setCell], fun base w0 hb hg => (hb.setCell hg _).setCell hg _⟩
  rw [Below.heap_setCell _ _ _ _ hk, Below.heap_setCell _ _ _ _ hk]
/-- Behind the program's answer, till its marks: the board and the reference's pairs as they lay at w5, the program's pairs (of its own blocks from b7 on). -/
structure MidP (A : Option Addr) (c : Nat) (n : Int) (L : List Int) (w0 w5 : World) (A5 : Option Addr) (sp : List (List Int)) (b7 : Nat) (A8 : Option Addr) (n8 x8 : Nat) (g : List (List Int)) (w : World) : Prop where
  pb : PbS A c n L w0 w5
  sp : Kd.C (Kd.slice 2 (Kd.int .i64)) w5 A5 sp.length sp
  below : Below w5.heap.size w5 w
  gs : Kd.S (Kd.slice 2 (Kd.int .i64)) 22 w b7 (fun _ => True) (.slice A8 n8 x8) g
  le : w5.heap.size ≤ b7 ∧ b7 ≤ w.heap.size
section
variable {A : Option Addr} {c : Nat} {n : Int} {L : List Int} {w0 w5 : World} {A5 : Option Addr} {sp : List (List Int)} {b7 : Nat} {A8 : Option Addr} {n8 x8 : Nat} {g gl : List (List Int)} {w w' : World}
theorem MidP.step (h : Aside0 (MidP A c n L w0 w5 A5 sp b7 A8 n8 x8 g w)) (hb : Below w.heap.size w w') : Aside0 (MidP A c n L w0 w5 A5 sp b7 A8 n8 x8 g w') :=
  ⟨h.out.pb, h.out.sp, below_then h.out.below h.out.below.size hb, Kd.S_below h.out.gs hb, h.out.le.1, Nat.le_trans h.out.le.2 hb.size⟩
theorem MidP.now (h : Aside0 (MidP A c n L w0 w5 A5 sp b7 A8 n8 x8 g w)) : Aside0 (PbS A c n L w0 w) := PbS.step ⟨h.out.pb⟩ h.out.below
theorem MidP.spec (h : Aside0 (MidP A c n L w0 w5 A5 sp b7 A8 n8 x8 g w)) : Kd.C (Kd.slice 2 (Kd.int .i64)) w A5 sp.length sp := Kd.C_below h.out.sp h.out.below
/-- Behind the marks of the program's pairs. -/
theorem MidP.marked (h : Aside0 (MidP A c n L w0 w5 A5 sp b7 A8 n8 x8 g w)) (hb : Below b7 w w') (hs : Kd.S (Kd.slice 2 (Kd.int .i64)) 22 w' b7 (fun _ => True) (.slice A8 n8 x8) gl) : Aside0 (MidP A c n L w0 w5 A5 sp b7 A8 n8 x8 gl w') :=
  ⟨h.out.pb, h.out.sp, ⟨hb.os.trans h.out.below.os, hb.tape.trans h.out.below.tape, hb.output.trans h.out.below.output, Nat.le_trans h.out.below.size hb.size, fun k hk => (hb.block k (Nat.lt_of_lt_of_le hk h.out.le.1)).trans (h.out.below.block k hk)⟩, hs, h.out.le.1, Nat.le_trans h.out.le.2 hb.size⟩
/-- Behind the marks of numbers that lie ahead of the program's pairs. -/
theorem MidP.kept (h : Aside0 (MidP A c n L w0 w5 A5 sp b7 A8 n8 x8 g w)) (hb : Below w5.heap.size w5 w') {S : Nat → Prop} (hk : Kept w w' S) (hS : ∀ k, S k → k < b7) : Aside0 (MidP A c n L w0 w5 A5 sp b7 A8 n8 x8 g w') :=
  ⟨h.out.pb, h.out.sp, hb, Kd.S_mono (Kd.S_step (Kd.S_bound h.out.gs) (fun k hq hlt => hk.2 k hlt (fun hs => by have := hS k hs; have := hq.2.1; omega))) (fun _ _ => trivial), h.out.le.1, Nat.le_trans h.out.le.2 hk.1⟩
theorem held_call (k : Nat) (m r : Int) (hs : Kd.S (Kd.slice 2 (Kd.int .i64)) 22 w b7 (fun _ => True) (.slice A8 n8 x8) g) (h : laws_heldInt64SS.f k g m = some r) :
    Calls Try.prog 38 #[.slice A8 n8 x8, .int .i64 m] w fun e w' => e = .returned (.int .i64 r) ∧ Drawn0 w w' := by
  obtain ⟨rfl, hle, hC⟩ := Kd.S_reads' hs
  exact laws_heldInt64SS.calls k A8 x8 g m r w hC hle h
theorem eq_call (k : Nat) (c5 : Nat) (r : Bool) (hs : Kd.S (Kd.slice 2 (Kd.int .i64)) 22 w b7 (fun _ => True) (.slice A8 n8 x8) g) (h5 : Kd.C (Kd.slice 2 (Kd.int .i64)) w A5 sp.length sp) (hc5 : sp.length ≤ c5) (h : laws_eqInt64SS.f k g sp = some r) :
    Calls Try.prog 36 #[.slice A8 n8 x8, .slice A5 sp.length c5] w fun e w' => e = .returned (.bool r) ∧ Drawn0 w w' := by
  obtain ⟨rfl, hle, hC⟩ := Kd.S_reads' hs
  exact laws_eqInt64SS.calls k A8 x8 g A5 c5 sp r w hC hle h5 hc5 h
theorem mark_call (k : Nat) (m r1 : Int) (hs : Kd.S (Kd.slice 2 (Kd.int .i64)) 22 w b7 (fun _ => True) (.slice A8 n8 x8) g) (hb : b7 ≤ w.heap.size) (h : laws_markInt64SS.f k g m = some (r1, gl)) :
    Calls Try.prog 37 #[.slice A8 n8 x8, .int .i64 m] w fun e w' => e = .returned (.int .i64 r1) ∧ Kd.S (Kd.slice 2 (Kd.int .i64)) 22 w' b7 (fun _ => True) (.slice A8 n8 x8) gl ∧ Below b7 w w' := by
  obtain ⟨rfl, _, _⟩ := Kd.S_reads' hs
  exact laws_markInt64SS.calls k b7 A8 x8 g m r1 gl w hs hb h
end
/-- The copy that was handed over: its variable and its numbers, of blocks behind w5 and ahead of b7. -/
structure CopyP (n : Int) (L : List Int) (w5 : World) (gx b7 : Nat) (A6 : Option Addr) (x6 : Nat) (w : World) : Prop where
  box : w.heap[gx]? = some (.cells #[.int .i64 n, .slice A6 L.length x6] 27 (0, 0))
  own : Kd.R (Kd.int .i64) 2 w w5.heap.size (fun k => k < b7) (.slice A6 L.length x6) L
section
variable {n : Int} {L : List Int} {w5 w w' : World} {gx b7 : Nat} {A6 : Option Addr} {x6 : Nat}
theorem CopyP.step (h : Aside0 (CopyP n L w5 gx b7 A6 x6 w)) (hb : Below w.heap.size w w') : Aside0 (CopyP n L w5 gx b7 A6 x6 w') := ⟨blk_below h.out.box hb, Kd.R_below h.out.own hb⟩
theorem CopyP.cells (h : Aside0 (CopyP n L w5 gx b7 A6 x6 w)) : w.cell? ⟨gx, 0, none⟩ = some (.int .i64 n) ∧ w.cell? ⟨gx, 1, none⟩ = some (.slice A6 L.length x6) := ⟨blk_cell h.out.box 0, blk_cell h.out.box 1⟩
theorem CopyP.C (h : Aside0 (CopyP n L w5 gx b7 A6 x6 w)) : Kd.C (Kd.int .i64) w A6 L.length L ∧ L.length ≤ x6 := ⟨(Kd.R_reads' h.out.own).2.2, (Kd.R_reads' h.out.own).2.1⟩
end
theorem both_cells {A : Option Addr} {c : Nat} {n : Int} {L : List Int} {w0 w5 w : World} {A5 : Option Addr} {sp : List (List Int)} {gx b7 : Nat} {A8 : Option Addr} {n8 x8 : Nat} {g : List (List Int)} {A6 : Option Addr} {x6 : Nat} (h : Aside0 (MidP A c n L w0 w5 A5 sp b7 A8 n8 x8 g w)) (hc : Aside0 (CopyP n L w5 gx b7 A6 x6 w)) :
    w.cell? ⟨gx, 0, none⟩ = some (.int .i64 n) ∧ w.cell? ⟨gx, 1, none⟩ = some (.slice A6 L.length x6) ∧ w.cell? ⟨w0.heap.size, 0, none⟩ = some (.int .i64 n) ∧ w.cell? ⟨w0.heap.size, 1, none⟩ = some (.slice A L.length c) ∧ Aside0 (MidP A c n L w0 w5 A5 sp b7 A8 n8 x8 g w) ∧ Aside0 (CopyP n L w5 gx b7 A6 x6 w) :=
  ⟨blk_cell hc.out.box 0, blk_cell hc.out.box 1, blk_cell (MidP.now h).out.box 0, blk_cell (MidP.now h).out.box 1, h, hc⟩
theorem CopyP.start {n : Int} {L : List Int} {w5 w6 w7 w8 : World} {gx : Nat} {A6 : Option Addr} {x6 : Nat} (ho : Aside0 (Kd.R (Kd.int .i64) 2 w6 w5.heap.size (fun _ => True) (.slice A6 L.length x6) L)) (hb6 : Aside0 (Below w5.heap.size w5 w6)) (hb7 : Aside0 (Below w6.heap.size w6 w7)) (hbx : Aside0 (w7.heap[gx]? = some (.cells #[.int .i64 0, .slice none 0 0] 27 (0, 0)))) (hg : Aside0 (gx = w6.heap.size))
    (e : w8 = (w7.setCell ⟨gx, 0, none⟩ (.int .i64 n)).setCell ⟨gx, 1, none⟩ (.slice A6 L.length x6)) : Aside0 (CopyP n L w5 gx w8.heap.size A6 x6 w8) ∧ Aside0 (Below w5.heap.size w5 w8) := by
  obtain ⟨f1, f2, f3, f4⟩ := fill_two hbx.out _ _ e
  have hg := hg.out
  have h7 := hb7.out.size
  have h6 := hb6.out.size
  refine ⟨⟨f1, ?_⟩, ⟨f4 _ _ (below_then hb6.out hb6.out.size hb7.out) (by omega)⟩⟩
  refine Kd.R_mono (Kd.R_step (Kd.R_below (Kd.R_mono (Kd.R_bound ho.out) (ok' := fun k => k < w6.heap.size) (fun k hk => hk.2.2.1)) hb7.out) (fun k hk _ => f2 k (by omega))) (fun k hk => by omega)
set_option linter.unusedSimpArgs false
set_option maxRecDepth 100000
set_option maxHeartbeats 4000000 in
theorem pairlaw_big (A : Option Addr) (c : Nat) (n : Int) (L : List Int) (z : Int) (w : World) (hr : Kd.C (Kd.int .i64) w A L.length L) (hc : L.length ≤ c) (hz : laws_szBoard.f n L 1048576 = some z) (h0 : z < 0) :
    Calls Try.prog 9 #[.agg #[.int .i64 n, .slice A L.length c]] w fun e w' => e = .returned (.bool true) ∧ Below w.heap.size w w' := by
  generalize hw1 : w.alloc (.cells #[.int .i64 n, .slice A L.length c] 24) = w1
  have HS1 := PbS.start (n := n) (c := c) hr hw1
  obtain ⟨hc0, hc1, _⟩ := PbS.cells HS1
  have HZ := Aside0.mk hz
  have h0b : decide (z < 0) = true := decide_eq_true h0
  have hu := Try.underlying24
  clear hz hr h0
  go_enter Try.func9, Try.ntmps9
  go_wp2_with (go_at_call 15; refine (laws_szBoard.calls n A c L _ z _ HS1.out.reads hc HZ.out).mono ?_; rintro e w2 ⟨rfl, hd2⟩; have HS2 := PbS.step HS1 hd2)
  go_ret
  exact ⟨rfl, HS2.out.below⟩
set_option maxHeartbeats 40000000 in
theorem pairlaw_good (k : Nat) (A : Option Addr) (c : Nat) (n : Int) (L : List Int) (z code : Int) (sp g : List (List Int)) (mk : Int) (ml : List Int) (ms : Int) (gl : List (List Int)) (w : World) (hr : Kd.C (Kd.int .i64) w A L.length L) (hc : L.length ≤ c) (hz : laws_szBoard.f n L 1048576 = some z) (h0 : ¬ z < 0)
    (hx : laws_toBoard.f k n L = some (n, L)) (hsp : SpecRows n L sp code) (hg : ImplRows n L g code) (he1 : laws_eqInt64SS.f k g sp = some true) (he2 : laws_eqBoard.f k n L n L = some true) (hmk : laws_markBoard.f k n L 1 = some (mk, ml)) (hm0 : 0 ≤ mk)
    (hms : laws_markInt64SS.f k g 1 = some (ms, gl)) (hg0 : 0 ≤ ms) (hh : laws_heldInt64SS.f k gl 1 = some ms) :
    Calls Try.prog 9 #[.agg #[.int .i64 n, .slice A L.length c]] w fun e w' => e = .returned (.bool true) ∧ Below w.heap.size w w' := by
  generalize hw1 : w.alloc (.cells #[.int .i64 n, .slice A L.length c] 24) = w1
  have HS1 := PbS.start (n := n) (c := c) hr hw1
  obtain ⟨hc0, hc1, _⟩ := PbS.cells HS1
  have HZ := Aside0.mk hz
  have HX := Aside0.mk hx
  have HSP := Aside0.mk hsp
  have HG := Aside0.mk hg
  have HE1 := Aside0.mk he1
  have HE2 := Aside0.mk he2
  have HMK := Aside0.mk hmk
  have HMS := Aside0.mk hms
  have HH := Aside0.mk hh
  have h0b : decide (z < 0) = false := decide_eq_false h0
  have hmb : decide (mk < 0) = false := decide_eq_false (by omega)
  have hgb : decide (ms < 0) = false := decide_eq_false (by omega)
  have hu := Try.underlying24
  have hu2 := Try.underlying27
  clear hz hr h0 hx hsp hg he1 he2 hmk hms hh hm0 hg0
  go_enter Try.func9, Try.ntmps9
  go_wp2_with (first
    | (go_at_call 15; refine (laws_szBoard.calls n A c L _ z _ HS1.out.reads hc HZ.out).mono ?_; rintro e w2 ⟨rfl, hd2⟩; have HS2 := PbS.step HS1 hd2; obtain ⟨hd0, hd1, _⟩ := PbS.cells HS2; clear hd2)
    | (go_at_call 17; with_reducible refine (laws_toBoard.calls k n A c L n L _ HS2.out.reads hc HX.out).mono ?_; rintro e w3 ⟨v3, rfl, ho3, hb3⟩; have HS3 := PbS.step HS2 hb3; obtain ⟨A3, x3, rfl, hl3, hC3⟩ := Kd.R_reads ho3; have HC3 := Aside0.mk hC3; clear ho3 hC3 hb3)
    | (go_at_call 34; refine (HSP.out A3 x3 _ HC3.out hl3).mono ?_; rintro e w5 ⟨A5, x5, rfl, hC5, hl5, hb5⟩; have HS5 := PbS.step HS3 hb5; have HC5 := Aside0.mk hC5; clear hC5 hb5; obtain ⟨he0, he1, _⟩ := PbS.cells HS5)
    | (go_at_call 17; with_reducible refine (laws_toBoard.calls k n A c L n L _ HS5.out.reads hc HX.out).mono ?_; rintro e w6 ⟨v6, rfl, ho6, hb6⟩; have HB6 := Aside0.mk hb6; have HO6 := Aside0.mk ho6; obtain ⟨A6, x6, e6⟩ := Kd.R_slice ho6; subst e6; clear ho6 hb6)
    | ((with_reducible refine gate_dst (N := 6) rfl ?_); refine zX 6 #[.int .i64 0, .slice none 0 0] 27 ?_; intro gx hgx w7 hbox hb7; have HBX := Aside0.mk hbox; have HGX := Aside0.mk hgx; have HB7 := Aside0.mk hb7; obtain ⟨hcz0, hcz1⟩ := zc2 HBX; obtain ⟨hfz0, hfz1⟩ := zf2 HBX; clear hbox hb7 hgx)
    | (go_at_call 35; obtain ⟨w8, e8⟩ : ∃ z, z = (w7.setCell ⟨gx, 0, none⟩ (.int .i64 n)).setCell ⟨gx, 1, none⟩ (.slice A6 L.length x6) := ⟨_, rfl⟩; rw [← e8]; obtain ⟨HC8, HB8⟩ := CopyP.start HO6 HB6 HB7 HBX HGX e8; clear e8 hcz0 hcz1 hfz0 hfz1 HO6 HB6 HB7 HBX; refine (HG.out A6 x6 _ (CopyP.C HC8).1 (CopyP.C HC8).2).mono ?_; rintro e w9 ⟨A8, x8, rfl, hs9, hb9⟩; have HM9 : Aside0 (MidP A c n L w w5 A5 sp w8.heap.size A8 g.length x8 g w9) := ⟨HS5.out, HC5.out, below_then HB8.out HB8.out.size hb9, hs9, HB8.out.size, hb9.size⟩; have HC9 := CopyP.step HC8 hb9; clear hs9 hb9)
    | (go_at_call 36; with_reducible refine (eq_call k x5 true HM9.out.gs (MidP.spec HM9) hl5 HE1.out).mono ?_; rintro e w10 ⟨rfl, hd10⟩; have HM10 := MidP.step HM9 hd10.below; have HC10 := CopyP.step HC9 hd10.below; clear hd10))
  go_region_held3 (fun w' => w'.cell? ⟨gx, 0, none⟩ = some (.int .i64 n) ∧ w'.cell? ⟨gx, 1, none⟩ = some (.slice A6 L.length x6) ∧ w'.cell? ⟨w.heap.size, 0, none⟩ = some (.int .i64 n) ∧ w'.cell? ⟨w.heap.size, 1, none⟩ = some (.slice A L.length c) ∧ Aside0 (MidP A c n L w w5 A5 sp w8.heap.size A8 g.length x8 g w') ∧ Aside0 (CopyP n L w5 gx w8.heap.size A6 x6 w'))
    (first
      | exact both_cells (MidP.step HM10 (below_drew (Below.refl _ _))) (CopyP.step HC10 (below_drew (Below.refl _ _)))
      | go_keep
      | (go_split_ands; exact both_cells (MidP.step (by assumption) hb') (CopyP.step (by assumption) hb')))
    (first
      | (go_at_call 17; go_split_ands; refine (laws_toBoard.calls k n A c L n L _ (MidP.now (by assumption)).out.reads hc HX.out).mono ?_; rintro e w11 ⟨v11, rfl, ho11, hb'⟩; obtain ⟨A11, x11, rfl, hl11, hC11⟩ := Kd.R_reads ho11; have HC11 := Aside0.mk hC11)
      | (go_at_call 19; go_split_ands; refine (laws_eqBoard.calls k n A6 x6 L n A11 x11 L true _ (CopyP.C (by assumption)).1 (CopyP.C (by assumption)).2 HC11.out hl11 HE2.out).mono ?_; rintro e w12 ⟨rfl, hb'⟩))
  rename_i hH
  have HM12 := hH.2.2.2.2.1
  have HC12 := hH.2.2.2.2.2
  obtain ⟨hx0, hx1⟩ := CopyP.cells HC12
  have HLT : Aside0 (∀ kk, some kk = (Value.slice A6 L.length x6).ownBlock → kk < w8.heap.size) := ⟨fun kk hk => HC12.out.own.1 kk hk.symm⟩
  clear hH HM10 HC10 HM9 HC9 HC8
  go_wp2_with (first
    | (go_at_call 29; refine (laws_markBoard.calls k n (fun kk => some kk = (Value.slice A6 L.length x6).ownBlock) (.slice A6 L.length x6) L 1 mk ml w5 _ HM12.out.below (Kd.R_tight rfl HC12.out.own) HMK.out).mono ?_; rintro e w13 ⟨rfl, _, hb13, hk13⟩; have HM13 := MidP.kept HM12 hb13 hk13 HLT.out; clear hb13 hk13)
    | (go_at_call 36; with_reducible refine (eq_call k x5 true HM13.out.gs (MidP.spec HM13) hl5 HE1.out).mono ?_; rintro e w14 ⟨rfl, hd14⟩; have HM14 := MidP.step HM13 hd14.below)
    | (go_at_call 37; refine (mark_call k 1 ms HM14.out.gs HM14.out.le.2 HMS.out).mono ?_; rintro e w15 ⟨rfl, hs15, hb15⟩; have HM15 := MidP.marked HM14 hb15 hs15; obtain ⟨hf0, hf1, _⟩ := PbS.cells (MidP.now HM15))
    | (go_at_call 38; with_reducible refine (held_call k 1 ms HM15.out.gs HH.out).mono ?_; rintro e w16 ⟨rfl, hd16⟩; have HM16 := MidP.step HM15 hd16.below; obtain ⟨hg0, hg1, _⟩ := PbS.cells (MidP.now HM16))
    | (go_at_call 17; with_reducible refine (laws_toBoard.calls k n A c L n L _ (MidP.now HM16).out.reads hc HX.out).mono ?_; rintro e w17 ⟨v17, rfl, ho17, hb17⟩; have HM17 := MidP.step HM16 hb17; obtain ⟨A17, x17, rfl, hl17, hC17⟩ := Kd.R_reads ho17; have HC17 := Aside0.mk hC17)
    | (go_at_call 35; refine (HG.out A17 x17 _ HC17.out hl17).mono ?_; rintro e w18 ⟨A18, x18, rfl, hs18, hb18⟩; have HM18 := MidP.step HM17 hb18; have HS18 := Aside0.mk hs18; clear hs18)
    | (go_at_call 36; refine (eq_call k x5 true HS18.out (MidP.spec HM18) hl5 HE1.out).mono ?_; rintro e w19 ⟨rfl, hd19⟩; have HM19 := MidP.step HM18 hd19.below)
    | (go_at_call 38; refine (held_call k 1 ms HM19.out.gs HH.out).mono ?_; rintro e w20 ⟨rfl, hd20⟩; have HM20 := MidP.step HM19 hd20.below))
  go_ret
  exact ⟨rfl, (MidP.now HM20).out.below⟩
theorem laws_FnExactFindPairing.calls (k : Nat) (a0_0 : Int) (A0_1 : Option Addr) (c0_1 : Nat) (l0_1 : List Int) (r : Bool) (w : World) (hr0_1 : Kd.C (Kd.int .i64) w A0_1 l0_1.length l0_1) (hc0_1 : l0_1.length ≤ c0_1) (h : laws_FnExactFindPairing.f k a0_0 l0_1 = some r) :
    Calls Try.prog 9 #[.agg #[.int .i64 a0_0, .slice A0_1 l0_1.length c0_1]] w fun e w' => e = .returned (.bool r) ∧ Below w.heap.size w w' := by
  obtain ⟨z, hz, h⟩ := Option.bind_eq_some_iff.1 h
  by_cases h0 : z < 0
  · rw [if_pos h0] at h
    obtain rfl := Option.some.inj h
    exact pairlaw_big A0_1 c0_1 a0_0 l0_1 z w hr0_1 hc0_1 hz h0
  · rw [if_neg h0] at h
    obtain ⟨x, hx, ha⟩ := Option.bind_eq_some_iff.1 h
    by_cases hxx : x = (a0_0, l0_1)
    · rw [if_pos hxx] at ha
      rw [hxx] at hx
      obtain ⟨⟨sp, code⟩, hsp, hb⟩ := Option.bind_eq_some_iff.1 ha
      obtain ⟨⟨g, code2⟩, hg, hd⟩ := Option.bind_eq_some_iff.1 hb
      clear h ha hb
      by_cases h1 : laws_eqInt64SS.f k (g.map two) (sp.map two) = some true ∧ code2 = code ∧ laws_eqBoard.f k a0_0 l0_1 a0_0 l0_1 = some true
      · rw [if_pos h1] at hd
        obtain ⟨he1, hcode, he2⟩ := h1
        subst hcode
        obtain ⟨⟨mk, ml⟩, hmk, hd⟩ := Option.bind_eq_some_iff.1 hd
        obtain ⟨⟨ms, gl⟩, hms, hd⟩ := Option.bind_eq_some_iff.1 hd
        by_cases h2 : 0 ≤ mk ∧ 0 ≤ ms ∧ laws_heldInt64SS.f k gl 1 = some ms
        · rw [if_pos h2] at hd
          obtain rfl := Option.some.inj hd
          exact pairlaw_good k A0_1 c0_1 a0_0 l0_1 z code2 (sp.map two) (g.map two) mk ml ms gl w hr0_1 hc0_1 hz h0 hx (spec_rows hsp) (impl_rows hg) he1 he2 hmk h2.1 hms h2.2.1 h2.2.2
        · rw [if_neg h2] at hd
          cases hd
      · rw [if_neg h1] at hd
        cases hd
    · rw [if_neg hxx] at ha
      cases ha
end Go.Proofs.Ytjeiifiacjhfoaa.Q
