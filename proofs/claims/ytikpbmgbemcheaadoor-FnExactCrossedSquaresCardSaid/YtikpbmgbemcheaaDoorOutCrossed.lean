/-
  The law FnExactCrossedSquares itself, told as the printed functions are: both sides' squares, compared, marked, and compared anew. The rows within memory's reach.
-/
import Derived.Test.YtikpbmgbemcheaaDoorOutMark
import Derived.Test.YtikpbmgbemcheaaDoorOutCar
import Derived.Test.YtikpbmgbemcheaaDoorQ1
import Derived.Test.YtikpbmgbemcheaaDoorQ8
import Derived.Test.YtikpbmgbemcheaaDoorQ13
import Derived.Test.YtikpbmgbemcheaaDoorQ21
namespace Go.Proofs.YtikpbmgbemcheaaDoor.Q
open Go.RowKit Go.Proofs.YtikpbmgbemcheaaDoorW.PrintWords Go.Proofs.YtikpbmgbemcheaaDoorW.PrintLast Go.Proofs.YtikpbmgbemcheaaDoorW.PrintMore

def laws_FnExactCrossedSquares.f (k : Nat) (l : List ByteArray) (c0 c1 c2 c3 m : Int) : Option Bool :=
  (laws_szStringS.f k l 1048576).bind fun z => if z < 0 then some true else
    (laws_toStringS.f k l).bind fun x => (spec_CrossedSquares.f k x c0 c1 c2 c3 m).bind fun sp => (impl_CrossedSquares.f k x c0 c1 c2 c3 m).bind fun g =>
      if laws_eqInt64SS.f k g.1 sp.1 = some true ∧ g.2 = sp.2 ∧ laws_eqStringS.f k x x = some true then (laws_markStringS.f k x 1).bind fun mk => (laws_markInt64SS.f k g.1 1).bind fun ms =>
        if 0 ≤ mk.1 ∧ 0 ≤ ms.1 ∧ laws_heldInt64SS.f k ms.2 1 = some ms.1 then some true else none
      else none
theorem laws_FnExactCrossedSquares.at_ {k : Nat} {l x : List ByteArray} {c0 c1 c2 c3 m z code : Int} {sp g : List (List Int)} {mk : Int} {ml : List ByteArray} {ms : Int} {gl : List (List Int)} (hz : laws_szStringS.f k l 1048576 = some z) (h0 : ¬ z < 0)
    (hx : laws_toStringS.f k l = some x) (hsp : spec_CrossedSquares.f k x c0 c1 c2 c3 m = some (sp, code)) (hg : impl_CrossedSquares.f k x c0 c1 c2 c3 m = some (g, code)) (he1 : laws_eqInt64SS.f k g sp = some true) (he2 : laws_eqStringS.f k x x = some true) (hmk : laws_markStringS.f k x 1 = some (mk, ml)) (hm0 : 0 ≤ mk)
    (hms : laws_markInt64SS.f k g 1 = some (ms, gl)) (hg0 : 0 ≤ ms) (hh : laws_heldInt64SS.f k gl 1 = some ms) : laws_FnExactCrossedSquares.f k l c0 c1 c2 c3 m = some true := by
  unfold laws_FnExactCrossedSquares.f
  simp only [hz, Option.bind_some, if_neg h0, hx, hsp, hg]
  rw [if_pos ⟨he1, trivial, he2⟩]
  simp only [hmk, hms, Option.bind_some]
  exact if_pos ⟨hm0, hg0, hh⟩
/-- What lies behind each step: the rows, the car's variable. -/
structure CrS (A : Option Addr) (c : Nat) (l : List ByteArray) (c0 c1 c2 c3 : Int) (w0 w : World) : Prop where
  reads : Kd.C Kd.string w A l.length l
  car : w.heap[w0.heap.size]? = some (.cells #[.int .i64 c0, .int .i64 c1, .int .i64 c2, .int .i64 c3] 27 (0, 0))
  below : Below w0.heap.size w0 w
section
variable {A : Option Addr} {c : Nat} {l : List ByteArray} {c0 c1 c2 c3 : Int} {w0 w w' : World}
theorem CrS.step (h : Aside0 (CrS A c l c0 c1 c2 c3 w0 w)) (hb : Below w.heap.size w w') : Aside0 (CrS A c l c0 c1 c2 c3 w0 w') := ⟨Kd.C_below h.out.reads hb, blk_below h.out.car hb, below_then h.out.below h.out.below.size hb⟩
theorem CrS.cells (h : Aside0 (CrS A c l c0 c1 c2 c3 w0 w)) : w.cell? ⟨w0.heap.size, 0, none⟩ = some (.int .i64 c0) ∧ w.cell? ⟨w0.heap.size, 1, none⟩ = some (.int .i64 c1) ∧ w.cell? ⟨w0.heap.size, 2, none⟩ = some (.int .i64 c2) ∧ w.cell? ⟨w0.heap.size, 3, none⟩ = some (.int .i64 c3) ∧ Aside0 (CrS A c l c0 c1 c2 c3 w0 w) :=
  ⟨blk_cell h.out.car 0, blk_cell h.out.car 1, blk_cell h.out.car 2, blk_cell h.out.car 3, h⟩
theorem CrS.C (h : Aside0 (CrS A c l c0 c1 c2 c3 w0 w)) : Kd.C Kd.string w A l.length l := h.out.reads
theorem CrS.box (hr : Kd.C Kd.string w A l.length l) {w1 : World} (h : w.alloc (.cells #[.int .i64 c0, .int .i64 c1, .int .i64 c2, .int .i64 c3] 27) = w1) : Aside0 (CrS A c l c0 c1 c2 c3 w w1) := by
  subst h
  have hb : Below w.heap.size w (w.alloc (.cells #[.int .i64 c0, .int .i64 c1, .int .i64 c2, .int .i64 c3] 27)) := (Below.refl _ _).alloc (Nat.le_refl _) _
  exact ⟨Kd.C_below hr hb, (MapKept.heap_alloc w _).1, hb⟩
theorem ca_step {α : Type} {d : Kd α} {n : Nat} {xs : List α} (h : Aside0 (Kd.C d w A n xs)) (hb : Below w.heap.size w w') : Aside0 (Kd.C d w' A n xs) := ⟨Kd.C_below h.out hb⟩
end
/-- Behind the program's answer, till its marks: the rows and the reference's squares as they lay at w5, the program's squares (of its own blocks from b7 on). -/
structure MidT (A : Option Addr) (c : Nat) (l : List ByteArray) (c0 c1 c2 c3 : Int) (w0 w5 : World) (A5 : Option Addr) (sp : List (List Int)) (b7 : Nat) (A8 : Option Addr) (n8 x8 : Nat) (g : List (List Int)) (w : World) : Prop where
  crs : CrS A c l c0 c1 c2 c3 w0 w5
  sp : Kd.C (Kd.slice 2 (Kd.int .i64)) w5 A5 sp.length sp
  below : Below w5.heap.size w5 w
  gs : Kd.S (Kd.slice 2 (Kd.int .i64)) 35 w b7 (fun _ => True) (.slice A8 n8 x8) g
  le : w5.heap.size ≤ b7 ∧ b7 ≤ w.heap.size
section
variable {A : Option Addr} {c : Nat} {l : List ByteArray} {c0 c1 c2 c3 : Int} {w0 w5 : World} {A5 : Option Addr} {sp : List (List Int)} {b7 : Nat} {A8 : Option Addr} {n8 x8 : Nat} {g gl : List (List Int)} {w w' : World}
theorem MidT.step (h : Aside0 (MidT A c l c0 c1 c2 c3 w0 w5 A5 sp b7 A8 n8 x8 g w)) (hb : Below w.heap.size w w') : Aside0 (MidT A c l c0 c1 c2 c3 w0 w5 A5 sp b7 A8 n8 x8 g w') :=
  ⟨h.out.crs, h.out.sp, below_then h.out.below h.out.below.size hb, Kd.S_below h.out.gs hb, h.out.le.1, Nat.le_trans h.out.le.2 hb.size⟩
theorem MidT.now (h : Aside0 (MidT A c l c0 c1 c2 c3 w0 w5 A5 sp b7 A8 n8 x8 g w)) : Aside0 (CrS A c l c0 c1 c2 c3 w0 w) := CrS.step ⟨h.out.crs⟩ h.out.below
theorem MidT.cells (h : Aside0 (MidT A c l c0 c1 c2 c3 w0 w5 A5 sp b7 A8 n8 x8 g w)) : w.cell? ⟨w0.heap.size, 0, none⟩ = some (.int .i64 c0) ∧ w.cell? ⟨w0.heap.size, 1, none⟩ = some (.int .i64 c1) ∧ w.cell? ⟨w0.heap.size, 2, none⟩ = some (.int .i64 c2) ∧ w.cell? ⟨w0.heap.size, 3, none⟩ = some (.int .i64 c3) ∧ Aside0 (MidT A c l c0 c1 c2 c3 w0 w5 A5 sp b7 A8 n8 x8 g w) := by
  obtain ⟨h0, h1, h2, h3, _⟩ := CrS.cells (MidT.now h)
  exact ⟨h0, h1, h2, h3, h⟩
theorem MidT.C (h : Aside0 (MidT A c l c0 c1 c2 c3 w0 w5 A5 sp b7 A8 n8 x8 g w)) : Kd.C Kd.string w A l.length l := (MidT.now h).out.reads
theorem MidT.spec (h : Aside0 (MidT A c l c0 c1 c2 c3 w0 w5 A5 sp b7 A8 n8 x8 g w)) : Kd.C (Kd.slice 2 (Kd.int .i64)) w A5 sp.length sp := Kd.C_below h.out.sp h.out.below
/-- Behind the marks of the program's squares. -/
theorem MidT.marked (h : Aside0 (MidT A c l c0 c1 c2 c3 w0 w5 A5 sp b7 A8 n8 x8 g w)) (hb : Below b7 w w') (hs : Kd.S (Kd.slice 2 (Kd.int .i64)) 35 w' b7 (fun _ => True) (.slice A8 n8 x8) gl) : Aside0 (MidT A c l c0 c1 c2 c3 w0 w5 A5 sp b7 A8 n8 x8 gl w') :=
  ⟨h.out.crs, h.out.sp, ⟨hb.os.trans h.out.below.os, hb.tape.trans h.out.below.tape, hb.output.trans h.out.below.output, Nat.le_trans h.out.below.size hb.size, fun k hk => (hb.block k (Nat.lt_of_lt_of_le hk h.out.le.1)).trans (h.out.below.block k hk)⟩, hs, h.out.le.1, Nat.le_trans h.out.le.2 hb.size⟩
/-- Behind the marks of texts that lie ahead of the program's squares. -/
theorem MidT.kept (h : Aside0 (MidT A c l c0 c1 c2 c3 w0 w5 A5 sp b7 A8 n8 x8 g w)) (hb : Below w5.heap.size w5 w') {S : Nat → Prop} (hk : Kept w w' S) (hS : ∀ k, S k → k < b7) : Aside0 (MidT A c l c0 c1 c2 c3 w0 w5 A5 sp b7 A8 n8 x8 g w') :=
  ⟨h.out.crs, h.out.sp, hb, Kd.S_mono (Kd.S_step (Kd.S_bound h.out.gs) (fun k hq hlt => hk.2 k hlt (fun hs => by have := hS k hs; have := hq.2.1; omega))) (fun _ _ => trivial), h.out.le.1, Nat.le_trans h.out.le.2 hk.1⟩
theorem held_call (k : Nat) (m r : Int) (hs : Kd.S (Kd.slice 2 (Kd.int .i64)) 35 w b7 (fun _ => True) (.slice A8 n8 x8) g) (h : laws_heldInt64SS.f k g m = some r) :
    Calls Tryd.prog 29 #[.slice A8 n8 x8, .int .i64 m] w fun e w' => e = .returned (.int .i64 r) ∧ Drawn0 w w' := by
  obtain ⟨rfl, hle, hC⟩ := Kd.S_reads' hs
  exact laws_heldInt64SS.calls k A8 x8 g m r w hC hle h
theorem eq_call (k : Nat) (c5 : Nat) (r : Bool) (hs : Kd.S (Kd.slice 2 (Kd.int .i64)) 35 w b7 (fun _ => True) (.slice A8 n8 x8) g) (h5 : Kd.C (Kd.slice 2 (Kd.int .i64)) w A5 sp.length sp) (hc5 : sp.length ≤ c5) (h : laws_eqInt64SS.f k g sp = some r) :
    Calls Tryd.prog 26 #[.slice A8 n8 x8, .slice A5 sp.length c5] w fun e w' => e = .returned (.bool r) ∧ Drawn0 w w' := by
  obtain ⟨rfl, hle, hC⟩ := Kd.S_reads' hs
  exact laws_eqInt64SS.calls k A8 x8 g A5 c5 sp r w hC hle h5 hc5 h
theorem mark_call (k : Nat) (m r1 : Int) (hs : Kd.S (Kd.slice 2 (Kd.int .i64)) 35 w b7 (fun _ => True) (.slice A8 n8 x8) g) (hb : b7 ≤ w.heap.size) (h : laws_markInt64SS.f k g m = some (r1, gl)) :
    Calls Tryd.prog 28 #[.slice A8 n8 x8, .int .i64 m] w fun e w' => e = .returned (.int .i64 r1) ∧ Kd.S (Kd.slice 2 (Kd.int .i64)) 35 w' b7 (fun _ => True) (.slice A8 n8 x8) gl ∧ Below b7 w w' := by
  obtain ⟨rfl, _, _⟩ := Kd.S_reads' hs
  exact laws_markInt64SS.calls k b7 A8 x8 g m r1 gl w hs hb h
end
set_option linter.unusedSimpArgs false
set_option maxRecDepth 100000
set_option maxHeartbeats 4000000 in
theorem crossed_big (k : Nat) (A : Option Addr) (c : Nat) (l : List ByteArray) (c0 c1 c2 c3 m z : Int) (w : World) (hr : Kd.C Kd.string w A l.length l) (hc : l.length ≤ c) (hz : laws_szStringS.f k l 1048576 = some z) (h0 : z < 0) :
    Calls Tryd.prog 7 #[.slice A l.length c, .agg #[.int .i64 c0, .int .i64 c1, .int .i64 c2, .int .i64 c3], .int .i64 m] w fun e w' => e = .returned (.bool true) ∧ Below w.heap.size w w' := by
  generalize hw1 : w.alloc (.cells #[.int .i64 c0, .int .i64 c1, .int .i64 c2, .int .i64 c3] 27) = w1
  have HS1 := CrS.box (c := c) hr hw1
  have HZ := Aside0.mk hz
  have h0b : decide (z < 0) = true := decide_eq_true h0
  clear hz hr h0
  go_enter Tryd.func7, Tryd.ntmps7
  go_wp2_with (go_at_call 9; refine (laws_szStringS.calls k A c l _ z _ HS1.out.reads hc HZ.out).mono ?_; rintro e w2 ⟨rfl, hd2⟩; have HS2 := CrS.step HS1 hd2.below)
  go_ret
  exact ⟨rfl, HS2.out.below⟩
set_option maxHeartbeats 40000000 in
theorem crossed_good (k : Nat) (A : Option Addr) (c : Nat) (l x : List ByteArray) (c0 c1 c2 c3 m z code : Int) (sp g : List (List Int)) (mk : Int) (ml : List ByteArray) (ms : Int) (gl : List (List Int)) (w : World) (hr : Kd.C Kd.string w A l.length l) (hc : l.length ≤ c) (hz : laws_szStringS.f k l 1048576 = some z) (h0 : ¬ z < 0)
    (hx : laws_toStringS.f k l = some x) (hsp : spec_CrossedSquares.f k x c0 c1 c2 c3 m = some (sp, code)) (hg : impl_CrossedSquares.f k x c0 c1 c2 c3 m = some (g, code)) (he1 : laws_eqInt64SS.f k g sp = some true) (he2 : laws_eqStringS.f k x x = some true) (hmk : laws_markStringS.f k x 1 = some (mk, ml)) (hm0 : 0 ≤ mk)
    (hms : laws_markInt64SS.f k g 1 = some (ms, gl)) (hg0 : 0 ≤ ms) (hh : laws_heldInt64SS.f k gl 1 = some ms) :
    Calls Tryd.prog 7 #[.slice A l.length c, .agg #[.int .i64 c0, .int .i64 c1, .int .i64 c2, .int .i64 c3], .int .i64 m] w fun e w' => e = .returned (.bool true) ∧ Below w.heap.size w w' := by
  generalize hw1 : w.alloc (.cells #[.int .i64 c0, .int .i64 c1, .int .i64 c2, .int .i64 c3] 27) = w1
  have HS1 := CrS.box (c := c) hr hw1
  obtain ⟨hc0, hc1, hc2, hc3, _⟩ := CrS.cells HS1
  have HZ := Aside0.mk hz
  have HX := Aside0.mk hx
  have HSP := Aside0.mk hsp
  have HG := Aside0.mk hg
  have HE1 := Aside0.mk he1
  have HE2 := Aside0.mk he2
  have HMK := Aside0.mk hmk
  have HMS := Aside0.mk hms
  have HH := Aside0.mk hh
  have h0b : decide (z < 0) = false := decide_eq_false h0
  have hmb : decide (mk < 0) = false := decide_eq_false (by omega)
  have hgb : decide (ms < 0) = false := decide_eq_false (by omega)
  have hu := Tryd.underlying27
  clear hz hr h0 hx hsp hg he1 he2 hmk hms hh hm0 hg0
  go_enter Tryd.func7, Tryd.ntmps7
  go_wp2_with (go_at_call 9; refine (laws_szStringS.calls k A c l _ z _ HS1.out.reads hc HZ.out).mono ?_; rintro e w2 ⟨rfl, hd2⟩; have HS2 := CrS.step HS1 hd2.below)
  go_region_held3 (fun w' => w'.cell? ⟨w.heap.size, 0, none⟩ = some (.int .i64 c0) ∧ w'.cell? ⟨w.heap.size, 1, none⟩ = some (.int .i64 c1) ∧ w'.cell? ⟨w.heap.size, 2, none⟩ = some (.int .i64 c2) ∧ w'.cell? ⟨w.heap.size, 3, none⟩ = some (.int .i64 c3) ∧ Aside0 (CrS A c l c0 c1 c2 c3 w w'))
    (first
      | exact CrS.cells (CrS.step HS2 (below_drew (Below.refl _ _)))
      | go_keep
      | (go_split_ands; exact CrS.cells (CrS.step (by assumption) hb')))
    (first
      | (go_at_call 11; go_split_ands; refine (laws_toStringS.calls k A c l x _ (CrS.C (by assumption)) hc HX.out).mono ?_; rintro e w3 ⟨v3, rfl, ho3, hb'⟩; obtain ⟨A3, x3, rfl, hl3, hC3⟩ := Kd.R_reads ho3; have HC3 := Aside0.mk hC3)
      | (go_at_call 18; refine (laws_toCar.calls c0 c1 c2 c3 _ _ _ _ _ rfl).mono ?_; rintro e w4 ⟨rfl, hb'⟩; have HC4 := ca_step HC3 hb')
      | (go_at_call 24; refine (spec_CrossedSquares.calls k A3 x3 x c0 c1 c2 c3 m sp code _ HC4.out hl3 HSP.out).mono ?_; rintro e w5 ⟨v5, rfl, hs5, hb'⟩; obtain ⟨A5, x5, rfl, hl5, hC5⟩ := Kd.S_reads hs5; have HC5 := Aside0.mk hC5))
  rename_i hH
  have HS5 := hH.2.2.2.2
  clear hH
  go_wp2_with (first
    | (go_at_call 11; with_reducible refine (laws_toStringS.calls k A c l x _ HS5.out.reads hc HX.out).mono ?_; rintro e w6 ⟨v6, rfl, ho6, hb6⟩; have HS6 := CrS.step HS5 hb6; have HW6 := ca_step HC5 hb6; obtain ⟨A6, x6, rfl, hl6, hC6⟩ := Kd.R_reads ho6; have HX6 := Aside0.mk hC6; have HO6 := Aside0.mk ho6; obtain ⟨q0, q1, q2, q3, _⟩ := CrS.cells HS6)
    | (go_at_call 18; refine (laws_toCar.calls c0 c1 c2 c3 _ _ _ _ _ rfl).mono ?_; rintro e w7 ⟨rfl, hb7⟩; have HS7 := CrS.step HS6 hb7; have HX7 := ca_step HX6 hb7; have HO7 := Aside0.mk (Kd.R_below HO6.out hb7))
    | (go_at_call 25; refine (impl_CrossedSquares.calls k A6 x6 x c0 c1 c2 c3 m g code _ HX7.out hl6 HG.out).mono ?_; rintro e w8 ⟨v8, rfl, hs8, hb8⟩; obtain ⟨A8, x8, rfl⟩ := Kd.S_slice hs8; have HX8 := ca_step HX7 hb8; have HO8 := Aside0.mk (Kd.R_below HO7.out hb8); have HM8 : Aside0 (MidT A c l c0 c1 c2 c3 w _ A5 sp w7.heap.size A8 g.length x8 g w8) := ⟨HS5.out, HC5.out, below_then (below_then hb6 hb6.size hb7) (Nat.le_trans hb6.size hb7.size) hb8, hs8, Nat.le_trans hb6.size hb7.size, hb8.size⟩; have HLT : Aside0 (∀ kk, some kk = (Value.slice A6 x.length x6).ownBlock → kk < w7.heap.size) := ⟨fun kk hk => Nat.lt_of_lt_of_le (Kd.R_lt HO6.out kk hk.symm) hb7.size⟩)
    | (go_at_call 26; with_reducible refine (eq_call k x5 true HM8.out.gs (MidT.spec HM8) hl5 HE1.out).mono ?_; rintro e w9 ⟨rfl, hd9⟩; have HM9 := MidT.step HM8 hd9.below; have HX9 := ca_step HX8 hd9.below; have HO9 := Aside0.mk (Kd.R_below HO8.out hd9.below))
    | (go_at_call 11; with_reducible refine (laws_toStringS.calls k A c l x _ (MidT.now HM9).out.reads hc HX.out).mono ?_; rintro e w10 ⟨v10, rfl, ho10, hb10⟩; have HM10 := MidT.step HM9 hb10; have HX10 := ca_step HX9 hb10; have HO10 := Aside0.mk (Kd.R_below HO9.out hb10); obtain ⟨A10, x10, rfl, hl10, hC10⟩ := Kd.R_reads ho10; have HY10 := Aside0.mk hC10)
    | (go_at_call 13; refine (laws_eqStringS.calls k A6 x6 x A10 x10 x true _ HX10.out hl6 HY10.out hl10 HE2.out).mono ?_; rintro e w11 ⟨rfl, hd11⟩; have HM11 := MidT.step HM10 hd11.below; have HO11 := Aside0.mk (Kd.R_below HO10.out hd11.below))
    | (go_at_call 27; refine (laws_markStringS.calls k (fun kk => some kk = (Value.slice A6 x.length x6).ownBlock) (.slice A6 x.length x6) x 1 mk ml _ _ HM11.out.below (Kd.R_tight rfl HO11.out) HMK.out).mono ?_; rintro e w12 ⟨rfl, _, hb12, hk12⟩; have HM12 := MidT.kept HM11 hb12 hk12 HLT.out)
    | (go_at_call 26; with_reducible refine (eq_call k x5 true HM12.out.gs (MidT.spec HM12) hl5 HE1.out).mono ?_; rintro e w13 ⟨rfl, hd13⟩; have HM13 := MidT.step HM12 hd13.below)
    | (go_at_call 28; refine (mark_call k 1 ms HM13.out.gs HM13.out.le.2 HMS.out).mono ?_; rintro e w14 ⟨rfl, hs14, hb14⟩; have HM14 := MidT.marked HM13 hb14 hs14)
    | (go_at_call 29; with_reducible refine (held_call k 1 ms HM14.out.gs HH.out).mono ?_; rintro e w15 ⟨rfl, hd15⟩; have HM15 := MidT.step HM14 hd15.below))
  go_region_held3 (fun w' => w'.cell? ⟨w.heap.size, 0, none⟩ = some (.int .i64 c0) ∧ w'.cell? ⟨w.heap.size, 1, none⟩ = some (.int .i64 c1) ∧ w'.cell? ⟨w.heap.size, 2, none⟩ = some (.int .i64 c2) ∧ w'.cell? ⟨w.heap.size, 3, none⟩ = some (.int .i64 c3) ∧ Aside0 (MidT A c l c0 c1 c2 c3 w w5 A5 sp w7.heap.size A8 g.length x8 gl w'))
    (first
      | exact MidT.cells (MidT.step HM15 (below_drew (Below.refl _ _)))
      | go_keep
      | (go_split_ands; exact MidT.cells (MidT.step (by assumption) hb')))
    (first
      | (go_at_call 11; go_split_ands; refine (laws_toStringS.calls k A c l x _ (MidT.C (by assumption)) hc HX.out).mono ?_; rintro e w16 ⟨v16, rfl, ho16, hb'⟩; obtain ⟨A16, x16, rfl, hl16, hC16⟩ := Kd.R_reads ho16; have HC16 := Aside0.mk hC16)
      | (go_at_call 18; refine (laws_toCar.calls c0 c1 c2 c3 _ _ _ _ _ rfl).mono ?_; rintro e w17 ⟨rfl, hb'⟩; have HC17 := ca_step HC16 hb')
      | (go_at_call 25; refine (impl_CrossedSquares.calls k A16 x16 x c0 c1 c2 c3 m g code _ HC17.out hl16 HG.out).mono ?_; rintro e w18 ⟨v18, rfl, hs18, hb'⟩; obtain ⟨A18, x18, rfl, hl18, hC18⟩ := Kd.S_reads hs18; have HC18 := Aside0.mk hC18))
  rename_i hH
  have HM18 := hH.2.2.2.2
  clear hH
  go_wp2_with (first
    | (go_at_call 26; refine (laws_eqInt64SS.calls k A18 x18 g A5 x5 sp true _ HC18.out hl18 (MidT.spec HM18) hl5 HE1.out).mono ?_; rintro e w19 ⟨rfl, hd19⟩; have HM19 := MidT.step HM18 hd19.below)
    | (go_at_call 29; refine (held_call k 1 ms HM19.out.gs HH.out).mono ?_; rintro e w20 ⟨rfl, hd20⟩; have HM20 := MidT.step HM19 hd20.below))
  go_ret
  exact ⟨rfl, (MidT.now HM20).out.below⟩
theorem laws_FnExactCrossedSquares.calls (k : Nat) (A0 : Option Addr) (c0 : Nat) (l0 : List ByteArray) (a1_0 : Int) (a1_1 : Int) (a1_2 : Int) (a1_3 : Int) (a2 : Int) (r : Bool) (w : World) (hr0 : Kd.C Kd.string w A0 l0.length l0) (hc0 : l0.length ≤ c0) (h : laws_FnExactCrossedSquares.f k l0 a1_0 a1_1 a1_2 a1_3 a2 = some r) :
    Calls Tryd.prog 7 #[.slice A0 l0.length c0, .agg #[.int .i64 a1_0, .int .i64 a1_1, .int .i64 a1_2, .int .i64 a1_3], .int .i64 a2] w fun e w' => e = .returned (.bool r) ∧ Below w.heap.size w w' := by
  obtain ⟨z, hz, h⟩ := Option.bind_eq_some_iff.1 h
  by_cases h0 : z < 0
  · rw [if_pos h0] at h
    obtain rfl := Option.some.inj h
    exact crossed_big k A0 c0 l0 a1_0 a1_1 a1_2 a1_3 a2 z w hr0 hc0 hz h0
  · rw [if_neg h0] at h
    obtain ⟨x, hx, ha⟩ := Option.bind_eq_some_iff.1 h
    obtain ⟨⟨sp, code⟩, hsp, hb⟩ := Option.bind_eq_some_iff.1 ha
    obtain ⟨⟨g, code2⟩, hg, hd⟩ := Option.bind_eq_some_iff.1 hb
    clear h ha hb
    by_cases h1 : laws_eqInt64SS.f k g sp = some true ∧ code2 = code ∧ laws_eqStringS.f k x x = some true
    · rw [if_pos h1] at hd
      obtain ⟨he1, hcode, he2⟩ := h1
      subst hcode
      obtain ⟨⟨mk, ml⟩, hmk, hd⟩ := Option.bind_eq_some_iff.1 hd
      obtain ⟨⟨ms, gl⟩, hms, hd⟩ := Option.bind_eq_some_iff.1 hd
      by_cases h2 : 0 ≤ mk ∧ 0 ≤ ms ∧ laws_heldInt64SS.f k gl 1 = some ms
      · rw [if_pos h2] at hd
        obtain rfl := Option.some.inj hd
        exact crossed_good k A0 c0 l0 x a1_0 a1_1 a1_2 a1_3 a2 z code2 sp g mk ml ms gl w hr0 hc0 hz h0 hx hsp hg he1 he2 hmk h2.1 hms h2.2.1 h2.2.2
      · rw [if_neg h2] at hd
        cases hd
    · rw [if_neg h1] at hd
      cases hd
end Go.Proofs.YtikpbmgbemcheaaDoor.Q
