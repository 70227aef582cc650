/-
  spec.l03Draw: the position that it draws, told without memory (an order of the edges, and those behind a number); the source goes on. As far as its f goes.
-/
import Derived.Test.YtelfllbjcpndfaaSq
import Derived.Test.YtelfllbjcpndfaaQ1
namespace Go.Proofs.Ytelfllbjcpndfaa.Q
open Go.RowKit Go.Proofs.YtelfllbjcpndfaaW.PrintWords Go.Proofs.YtelfllbjcpndfaaW.PrintLast Go.Proofs.YtelfllbjcpndfaaW.PrintMore

/-- The edges from e on, each put into the list somewhere. -/
def orderF (cl : List Int) : Nat → Nat → List Int → Int → Int → Option (List Int × Int × Int)
  | 0, _, o, a, h => some (o, a, h)
  | d + 1, e, o, a, h => (spec_l01Next.f cl a h ((e + 1 : Nat) : Int)).bind fun v => if (0 ≤ v.1 ∧ v.1 ≤ (o.length : Int)) ∧ o.length ≤ 100 ∧ e ≤ 100 then orderF cl d (e + 1) (o.take v.1.toNat ++ [(e : Int)] ++ o.drop v.1.toNat) v.2.1 v.2.2 else none
/-- Edges are drawn. -/
def edgesF : List Int → Int → Option Int
  | [], E => some E
  | x :: xs, E => if 0 ≤ x ∧ x ≤ 60 then edgesF xs (Go.bits .or .i64 E (shl .i64 1 x)) else none
def spec_l03Draw.f (cl : List Int) (a h : Int) : Option (Int × Int × Int × Int × Int) :=
  (spec_l01Next.f cl a h 3).bind fun w => (spec_l01Next.f cl w.2.1 w.2.2 3).bind fun u => (spec_l01Pick.f cl u.2.1 u.2.2 [4, 8, 11, 25]).bind fun m => (spec_l01Next.f cl m.2.1 m.2.2 m.1).bind fun q =>
    if (0 ≤ w.1 ∧ w.1 ≤ 2) ∧ (0 ≤ u.1 ∧ u.1 ≤ 2) ∧ (0 ≤ q.1 ∧ q.1 ≤ 100) then (spec_l03Count.f (1 + w.1) (1 + u.1) 0).bind fun n => if 0 ≤ n ∧ n ≤ 100 then
      (orderF cl n.toNat 0 [] q.2.1 q.2.2).bind fun o => if o.1.length ≤ 1000 then (edgesF (o.1.drop q.1.toNat) 0).bind fun E => some (1 + w.1, 1 + u.1, E, o.2.1, o.2.2) else none else none else none

/-- The world of the draw: the source, the result's cells, nothing else of what came in is written. -/
structure DrR (wS w0 : World) (g : Nat) (cl : List Int) (gr : Nat) (a h : Int) (w : World) : Prop where
  src : IsS89 w0 w g cl a h
  below : Below w0.heap.size w0 w
  keep : KeepBut wS w g none
  res : w.heap[gr]? = some (.cells #[.int .i64 0, .int .i64 0, .int .i64 0] 25 (0, 0))
/-- And the position in its variable. -/
structure DrS (wS w0 : World) (g : Nat) (cl : List Int) (gr gb : Nat) (W H E a h : Int) (w : World) : Prop where
  dr : DrR wS w0 g cl gr a h w
  box : w.heap[gb]? = some (.cells #[.int .i64 W, .int .i64 H, .int .i64 E] 25 (0, 0))
section
variable {wS w0 w w' w1 : World} {g gr gb : Nat} {cl : List Int} {W H E a h a' h' : Int}
theorem DrR.start (hI : IsS89 w0 w g cl a h) (hB : Below w0.heap.size w0 w) (hg : gr = w.heap.size) (hx : w1.heap[gr]? = some (.cells #[.int .i64 0, .int .i64 0, .int .i64 0] 25 (0, 0))) (hb : Below w.heap.size w w1) : Aside0 (DrR w w0 g cl gr a h w1) ∧ Aside0 (gr ≠ g ∧ w.heap.size ≤ gr ∧ w0.heap.size ≤ gr) :=
  ⟨⟨hI.below hb, below_then hB hB.size hb, KeepBut.of_below hb g none, hx⟩, ⟨by have := hI.lt; omega, by omega, by have := hB.size; omega⟩⟩
theorem DrR.next (D : Aside0 (DrR wS w0 g cl gr a h w)) (N : Aside0 (gr ≠ g ∧ wS.heap.size ≤ gr ∧ w0.heap.size ≤ gr)) (hi : IsS89 w0 w' g cl a' h') (hb : Below w0.heap.size w0 w') (hk : KeepBut w w' g none) : Aside0 (DrR wS w0 g cl gr a' h' w') :=
  ⟨hi, hb, KeepBut.trans D.out.keep hk (.inl rfl), KeepBut.blk hk D.out.res N.out.1 (by simp)⟩
theorem DrR.step (D : Aside0 (DrR wS w0 g cl gr a h w)) (hb : Below w.heap.size w w') : Aside0 (DrR wS w0 g cl gr a h w') :=
  ⟨D.out.src.below hb, below_then D.out.below D.out.below.size hb, KeepBut.trans D.out.keep (KeepBut.of_below hb g none) (.inl rfl), blk_below D.out.res hb⟩
theorem DrS.start (D : Aside0 (DrR wS w0 g cl gr a h w)) (hg : Aside0 (gb = w.heap.size)) (hb : Aside0 (Below w.heap.size w w1)) (hx : Aside0 (w1.heap[gb]? = some (.cells #[.int .i64 0, .int .i64 0, .int .i64 0] 25 (0, 0))))
    (e : w' = ((w1.setCell ⟨gb, 0, none⟩ (.int .i64 W)).setCell ⟨gb, 1, none⟩ (.int .i64 H)).setCell ⟨gb, 2, none⟩ (.int .i64 E)) : Aside0 (DrS wS w0 g cl gr gb W H E a h w') ∧ Aside0 (gb ≠ g ∧ wS.heap.size ≤ gb ∧ w0.heap.size ≤ gb ∧ gr ≠ gb) := by
  have s : w.heap.size ≤ gb := by rw [hg.out]; exact Nat.le_refl _
  have hb2 : Below w.heap.size w w' := by rw [e]; exact ((hb.out.setCell s _).setCell s _).setCell s _
  refine ⟨⟨(DrR.step D hb2).out, ?_⟩, ⟨?_, ?_, ?_, ?_⟩⟩
  · rw [e]
    exact blk_put (cs := #[.int .i64 W, .int .i64 H, .int .i64 0]) (blk_put (cs := #[.int .i64 W, .int .i64 0, .int .i64 0]) (blk_put hx.out 0 _ rfl) 1 _ rfl) 2 _ rfl
  · have := D.out.src.lt; omega
  · have := D.out.keep.1; omega
  · have := D.out.below.size; omega
  · have := blk_lt D.out.res; omega
theorem DrS.next (D : Aside0 (DrS wS w0 g cl gr gb W H E a h w)) (N : Aside0 (gr ≠ g ∧ wS.heap.size ≤ gr ∧ w0.heap.size ≤ gr)) (M : Aside0 (gb ≠ g ∧ wS.heap.size ≤ gb ∧ w0.heap.size ≤ gb ∧ gr ≠ gb)) (hi : IsS89 w0 w' g cl a' h') (hb : Below w0.heap.size w0 w') (hk : KeepBut w w' g none) : Aside0 (DrS wS w0 g cl gr gb W H E a' h' w') :=
  ⟨(DrR.next ⟨D.out.dr⟩ N hi hb hk).out, KeepBut.blk hk D.out.box M.out.1 (by simp)⟩
theorem DrS.step (D : Aside0 (DrS wS w0 g cl gr gb W H E a h w)) (hb : Below w.heap.size w w') : Aside0 (DrS wS w0 g cl gr gb W H E a h w') := ⟨(DrR.step ⟨D.out.dr⟩ hb).out, blk_below D.out.box hb⟩
theorem DrS.put (D : Aside0 (DrS wS w0 g cl gr gb W H E a h w)) (M : Aside0 (gb ≠ g ∧ wS.heap.size ≤ gb ∧ w0.heap.size ≤ gb ∧ gr ≠ gb)) (E' : Int) : Aside0 (DrS wS w0 g cl gr gb W H E' a h (w.setCell ⟨gb, 2, none⟩ (.int .i64 E'))) :=
  ⟨⟨D.out.dr.src.far (fun e => M.out.1 e.symm) _, below_set D.out.dr.below M.out.2.2.1, keep_far D.out.dr.keep M.out.2.1 _, blk_far D.out.dr.res M.out.2.2.2 _⟩, blk_put (cs := #[.int .i64 W, .int .i64 H, .int .i64 E]) D.out.box 2 _ rfl⟩
theorem DrS.cells (D : Aside0 (DrS wS w0 g cl gr gb W H E a h w)) : w.cell? ⟨gb, 0, none⟩ = some (.int .i64 W) ∧ w.cell? ⟨gb, 1, none⟩ = some (.int .i64 H) ∧ w.cell? ⟨gb, 2, none⟩ = some (.int .i64 E) := zc3 ⟨D.out.box⟩
end
/-- The world while an edge is put into the order: what is copied (p), the edge's row (q). -/
structure D8 (wr : World) (x : Int) (p q : Nat) (t : List Int) (v : Value) (z : Nat) (w : World) : Prop where
  below : Below wr.heap.size wr w
  a1 : p = 1 → Kd.R (Kd.int .i64) 2 w wr.heap.size (fun k => q = 1 → k ≠ z) v t
  b1 : q = 1 → wr.heap.size ≤ z ∧ w.heap[z]? = some (.cells #[.int .i64 x] 2 (0, 0))
section
variable {wr w w' : World} {x : Int} {p q : Nat} {t : List Int} {v v1 : Value} {z z1 : Nat}
theorem D8.start : Aside0 (D8 w x 0 0 t undef 0 w) := ⟨Below.refl _ _, fun h => by omega, fun h => by omega⟩
theorem D8.own (h : Aside0 (D8 wr x 0 q t v z w)) (hr : Kd.R (Kd.int .i64) 2 w' w.heap.size (fun _ => True) v1 t) (hb : Below w.heap.size w w') : Aside0 (D8 wr x 1 q t v1 z w') :=
  ⟨below_then h.out.below h.out.below.size hb, fun _ => Kd.R_lower (Kd.R_mono (Kd.R_bound hr) (fun k hk hq => by
    have := blk_lt (h.out.b1 hq).2
    have := hk.2.1
    omega)) h.out.below.size, fun hq => ⟨(h.out.b1 hq).1, blk_below (h.out.b1 hq).2 hb⟩⟩
theorem D8.lit (h : Aside0 (D8 wr x p 0 t v z w)) (e : w' = w.alloc (.cells #[.int .i64 x] 2)) (ez : z1 = w.heap.size) : Aside0 (D8 wr x p 1 t v z1 w') := by
  subst e ez
  have hb : Below w.heap.size w (w.alloc (.cells #[.int .i64 x] 2)) := (Below.refl _ _).alloc (Nat.le_refl _) _
  exact ⟨below_then h.out.below h.out.below.size hb, fun e => Kd.R_below (Kd.R_mono (Kd.R_bound (h.out.a1 e)) (fun k hk _ => by have := hk.2.2.1; omega)) hb, fun _ => ⟨h.out.below.size, heap_alloc_new w _⟩⟩
theorem D8.row (h : Aside0 (D8 wr x 1 1 t v z w)) : Kd.C (Kd.int .i64) w (some ⟨z, 0, none⟩) 1 [x] :=
  Kd.C_of_reads (d := (0 : Int)) (h1 := fun _ => rfl) ⟨rfl, by simp, fun _ => ⟨_, rfl, fun j hj => by
    have h0 : j = 0 := by simp at hj; omega
    subst h0
    exact blk_cell (h.out.b1 rfl).2 0⟩⟩
end
theorem wrap_upd (i : Nat) (h : i ≤ 10000) : wrap64 ((i : Int) + 1) = ((i + 1 : Nat) : Int) := by
  unfold wrap64
  omega
theorem wrap_one (x : Int) (h0 : 0 ≤ x) (h1 : x ≤ 10000) : wrap64 (1 + x) = 1 + x := by
  unfold wrap64
  omega
theorem wrap_two (x : Int) (h0 : 0 ≤ x) (h1 : x ≤ 10000) : wrap64 (x + 1) = x + 1 := by
  unfold wrap64
  omega
def draw8T : Bool × List (List Nat × List Nat) := (true, [([], []), ([], []), ([0, 1], [0, 1]), ([2], [2]), ([], []), ([4], [4]), ([3, 5, 3], [3, 5]), ([], []), ([], []), ([7, 8], [7, 8]), ([6, 9, 6], [6, 9]), ([10, 10, 0, 1, 2, 3, 4, 5, 6, 7, 8, 9, 10], [0, 7, 10])])
def draw8B : List Nat := [0, 0, 3, 7, 0, 16, 63, 0, 0, 384, 1023, 2047]
theorem draw8_tab : rtab .any (opsOf Try.f45 8) = draw8T := by kernel_rfl
theorem draw8_bits : waitsOk draw8T.2 draw8B = true := by kernel_rfl
def draw12T : Bool × List (List Nat × List Nat) := (true, [([], []), ([0], [0]), ([], []), ([], []), ([2, 3], [2, 3]), ([4], [4]), ([5], [5]), ([6], [6]), ([1, 7], [1, 7]), ([0, 1, 2, 3, 4, 5, 6, 7, 8], []), ([9, 8, 0, 1, 2, 3, 4, 5, 6, 7, 8], [8, 9])])
def draw12B : List Nat := [0, 1, 0, 0, 12, 28, 60, 124, 255, 511, 1023]
theorem draw12_tab : rtab .any (opsOf Try.f45 12) = draw12T := by kernel_rfl
theorem draw12_bits : waitsOk draw12T.2 draw12B = true := by kernel_rfl
set_option linter.unusedSimpArgs false
set_option linter.unusedVariables false
set_option maxRecDepth 100000
set_option maxHeartbeats 40000000 in
theorem draw3_walk (g : Nat) (cl : List Int) (s1 s2 W H E x1 a1 h1 x2 a2 h2 x3 a3 h3 x4 a4 h4 n a6 h6 : Int) (o y3 : List Int) (w0 w : World) (HI : Aside0 (IsS89 w0 w g cl s1 s2)) (HBB : Aside0 (Below w0.heap.size w0 w))
    (A1 : Aside0 (spec_l01Next.f cl s1 s2 3 = some (x1, a1, h1))) (A2 : Aside0 (spec_l01Next.f cl a1 h1 3 = some (x2, a2, h2))) (A3 : Aside0 (spec_l01Pick.f cl a2 h2 y3 = some (x3, a3, h3))) (Ny3 : Aside0 (y3 = [4, 8, 11, 25])) (A4 : Aside0 (spec_l01Next.f cl a3 h3 x3 = some (x4, a4, h4)))
    (hw1 : wrap64 (1 + x1) = W) (hw2 : wrap64 (1 + x2) = H) (HR : Aside0 (0 ≤ x4 ∧ x4 ≤ 100)) (A5 : Aside0 (∀ E, spec_l03Count.f W H E = some n)) (HN : Aside0 (0 ≤ n ∧ n ≤ 100)) (A6 : Aside0 (orderF cl n.toNat 0 [] a4 h4 = some (o, a6, h6))) (HO : Aside0 (o.length ≤ 1000)) (A7 : Aside0 (edgesF (o.drop x4.toNat) 0 = some E)) :
    Calls Try.prog 45 #[.pointer (some ⟨g, 0, none⟩)] w fun e w' => e = .returned (.agg #[.int .i64 W, .int .i64 H, .int .i64 E]) ∧ IsS89 w0 w' g cl a6 h6 ∧ Below w0.heap.size w0 w' ∧ KeepBut w w' g none := by
  have hu := Try.underlying25
  go_enter Try.func45, Try.ntmps45
  go_wp2_with (first
    | ((with_reducible refine gate_dst (N := 2) rfl ?_); refine zX 2 #[.int .i64 0, .int .i64 0, .int .i64 0] 25 ?_; intro gr hgr w1 hbox hb; obtain ⟨D1, N1⟩ := DrR.start HI.out HBB.out hgr hbox hb; clear HI HBB hgr hbox hb)
    | (go_at_call 65; with_reducible refine (spec_l01Next.calls g cl s1 s2 3 x1 a1 h1 w0 _ D1.out.src D1.out.below A1.out).mono ?_; rintro e w2 ⟨rfl, hi, hb, hk⟩; have D2 := DrR.next D1 N1 hi hb hk; clear D1 hi hb hk A1)
    | (go_at_call 65; with_reducible refine (spec_l01Next.calls g cl a1 h1 3 x2 a2 h2 w0 _ D2.out.src D2.out.below A2.out).mono ?_; rintro e w3 ⟨rfl, hi, hb, hk⟩; have D3 := DrR.next D2 N1 hi hb hk; clear D2 hi hb hk A2)
    | ((with_reducible refine gate_dst (N := 3) rfl ?_); refine zX 3 #[.int .i64 0, .int .i64 0, .int .i64 0] 25 ?_; intro gb hgb w4 hbox hb; have HGB := Aside0.mk hgb; have HB4 := Aside0.mk hb; have HX4 := Aside0.mk hbox; obtain ⟨p0, p1, p2⟩ := zc3 HX4; obtain ⟨q0, q1, q2⟩ := zf3 HX4; clear hgb hb hbox)
    | ((with_reducible refine gate_dst (N := 18) rfl ?_); obtain ⟨w5, e5⟩ : ∃ z, z = ((w4.setCell ⟨gb, 0, none⟩ (.int .i64 W)).setCell ⟨gb, 1, none⟩ (.int .i64 H)).setCell ⟨gb, 2, none⟩ (.int .i64 0) := ⟨_, rfl⟩; rw [← e5]; obtain ⟨D5, M5⟩ := DrS.start D3 HGB HB4 HX4 e5; clear D3 HGB HB4 HX4 p0 p1 p2 q0 q1 q2 e5;
        refine Kd.R_lit (Kd.int .i64) _ 2 ?hg (N := 18) ?hd (xs := ([4, 8, 11, 25] : List Int)) (inner := [.int .i64 4, .int .i64 8, .int .i64 11, .int .i64 25]) (ok := fun _ => True) (okp := fun _ => True) ?hr ?hp (fun _ hk => hk) trivial (Below.refl _ _) (Nat.le_refl _) (by simp) ?_; (case hd => rfl); (case hg => rfl); (case hr => first | (go_simp; done) | (go_simp; rfl)); (case hp => exact (Reps.one (show Kd.M (Kd.int .i64) _ _ _ 4 [.int .i64 4] from rfl) (Reps.one (show Kd.M (Kd.int .i64) _ _ _ 8 [.int .i64 8] from rfl) (Reps.one (show Kd.M (Kd.int .i64) _ _ _ 11 [.int .i64 11] from rfl) (Reps.one (show Kd.M (Kd.int .i64) _ _ _ 25 [.int .i64 25] from rfl) (Reps.none _ _)))))); intro v18 w6 ho6 hb6 hg_ hnew_; clear hg_ hnew_; rw [← Ny3.out] at ho6; have D6 := DrS.step D5 hb6; obtain ⟨P6, k6, rfl, hl6, hC6⟩ := Kd.R_reads ho6; have HO6 := Aside0.mk ho6; have HC6 := Aside0.mk hC6; clear D5 ho6 hb6 hC6)
    | (go_at_call 66; with_reducible refine (spec_l01Pick.calls g cl a2 h2 P6 k6 y3 x3 a3 h3 w0 _ D6.out.dr.src D6.out.dr.below HC6.out hl6 (far_slice (IsS89.own_ne D6.out.dr.src HO6.out (by decide))) A3.out).mono ?_; rintro e w7 ⟨rfl, hi, hb, hk⟩; have D7 := DrS.next D6 N1 M5 hi hb hk; clear D6 hi hb hk A3 HO6 HC6)
    | (go_at_call 65; with_reducible refine (spec_l01Next.calls g cl a3 h3 x3 x4 a4 h4 w0 _ D7.out.dr.src D7.out.dr.below A4.out).mono ?_; rintro e w8 ⟨rfl, hi, hb, hk⟩; have D8_ := DrS.next D7 N1 M5 hi hb hk; clear D7 hi hb hk A4)
    | ((with_reducible refine gate_dst (N := 21) rfl ?_); refine Kd.R_lit (Kd.int .i64) _ 2 ?hg (N := 21) ?hd (xs := ([] : List Int)) (inner := []) (ok := fun _ => True) (okp := fun _ => True) ?hr ?hp (fun _ hk => hk) trivial (Below.refl _ _) (Nat.le_refl _) (by simp) ?_; (case hd => rfl); (case hg => rfl); (case hr => first | (go_simp; done) | (go_simp; rfl)); (case hp => exact (Reps.none _ _)); intro v21 w9 ho9 hb9 hg_ hnew_; clear hg_ hnew_; have D9 := DrS.step D8_ hb9; have HO9 := Aside0.mk (Kd.R_lower ho9 (below_size D8_.out.dr.below)); clear D8_ ho9 hb9))
  go_loopg [5, 6] n.toNat (fun gg v5 v6 wr => ∃ (ee d : Nat) (od : List Int) (a h : Int), v6 = .int .i64 (ee : Int) ∧ ee + d = n.toNat ∧ d ≤ gg ∧ Aside0 (orderF cl d ee od a h = some (o, a6, h6)) ∧ Aside0 (Kd.R (Kd.int .i64) 2 wr w0.heap.size (fun _ => True) v5 od) ∧ Aside0 (DrS w w0 g cl gr gb W H 0 a h wr))
  case atStart => exact ⟨0, n.toNat, [], a4, h4, rfl, by omega, Nat.le_refl _, A6, HO9, D9⟩
  case round =>
    clear D9 HO9 A6
    obtain ⟨ee, d, od, a, h, rfl, hed, hgg, HA, HOr, DR⟩ := hrel
    obtain ⟨Ao, co, eo⟩ := Kd.R_slice HOr.out
    subst eo
    obtain ⟨p0, p1, p2⟩ := DrS.cells DR
    have hn0 := HN.out
    cases d with
    | zero =>
      have hlt : decide ((ee : Int) < n) = false := decide_eq_false (by omega)
      have hA := HA.out
      simp only [orderF, Option.some.injEq, Prod.mk.injEq] at hA
      obtain ⟨ho1, ha1, hh1⟩ := hA
      subst ho1 ha1 hh1
      clear HA hed hgg hn0
      go_wp2_with (go_at_call 51; with_reducible refine (spec_l03Count.calls W H 0 n _ (A5.out 0)).mono ?_; rintro e w1 ⟨rfl, hb⟩; have D1 := DrS.step DR hb; have HO1 := Aside0.mk (Kd.R_below HOr.out hb); clear DR HOr hb p0 p1 p2)
      go_loopg [8] (od.length + 1) (fun gg v8 wr => ∃ (i : Nat) (E' : Int), v8 = .int .i64 (i : Int) ∧ i ≤ 10000 ∧ od.length + 1 - i ≤ gg ∧ Aside0 (edgesF (od.drop i) E' = some E) ∧ Aside0 (Kd.R (Kd.int .i64) 2 wr w0.heap.size (fun _ => True) (.slice Ao od.length co) od) ∧ Aside0 (DrS w w0 g cl gr gb W H E' a h wr))
      case atStart => exact ⟨x4.toNat, 0, by rw [show ((x4.toNat : Nat) : Int) = x4 by have := HR.out; omega], by have := HR.out; omega, by omega, A7, HO1, D1⟩
      case round =>
        clear D1 HO1 A7
        obtain ⟨i, E', rfl, hi, hgg, HE, HOr, DR⟩ := hrel
        have hol := HO.out
        by_cases hlt : i < od.length
        · have hltz : (i : Int) < (od.length : Int) := by omega
          have hltb : decide ((i : Int) < (od.length : Int)) = true := decide_eq_true hltz
          obtain ⟨x, rest, hd, hx0, hx1, HE2⟩ : ∃ x rest, od.drop i = x :: rest ∧ 0 ≤ x ∧ x ≤ 60 ∧ Aside0 (edgesF (od.drop (i + 1)) (Go.bits .or .i64 E' (shl .i64 1 x)) = some E) := by
            have h1 := HE.out
            rw [List.drop_eq_getElem_cons hlt] at h1
            simp only [edgesF] at h1
            split at h1
            · rename_i h2
              exact ⟨_, _, List.drop_eq_getElem_cons hlt, h2.1, h2.2, ⟨h1⟩⟩
            · cases h1
          have hrd : rd od (i : Int) = x := by
            have h1 := List.drop_eq_getElem_cons hlt
            rw [hd] at h1
            injection h1 with h2 h3
            unfold rd
            rw [Int.toNat_natCast, List.getD_eq_getElem?_getD, List.getElem?_eq_getElem hlt, h2]
            rfl
          obtain ⟨ad, e1, hx⟩ := Kd.at_int (Kd.R_reads' HOr.out).2.2 (i : Int) (by omega) hltz
          cases e1
          rw [hrd, Int.toNat_natCast] at hx
          have hux : IntKind.u64.wrap x = x := by
            have hq : ∀ m : Fin 64, IntKind.u64.wrap ((m.val : Nat) : Int) = ((m.val : Nat) : Int) := by decide +kernel
            have := hq ⟨x.toNat, by omega⟩
            rwa [show ((x.toNat : Nat) : Int) = x by omega] at this
          have hsx : shl .i64 1 x = wrap64 (2 ^ min x.toNat 64) := by
            unfold shl
            rw [← i64_w]
            simp [show IntKind.i64.bits = 64 from rfl]
          have HSX := Aside0.mk hsx
          have HX := Aside0.mk (show 0 ≤ x ∧ x ≤ 60 from ⟨hx0, hx1⟩)
          have HEX := Aside0.mk hx
          have hiw := wrap_upd i hi
          have HIW := Aside0.mk hiw
          have hxp := eq_true hx0
          have hxn := decide_eq_true hx0
          have hxm : decide (x < 0) = false := decide_eq_false (by omega)
          clear hd hrd hx0 hx1 hsx HE hx hiw
          go_wp2
          have DRd := DrS.step DR (below_drew (Below.refl wr.heap.size wr))
          have HOd := Aside0.mk (Kd.R_drew HOr.out)
          refine start_ (n := 11) (S := (fun w' => w'.cell? ⟨gb, 2, none⟩ = some (.int .i64 E') ∧ w'.cell? (ad.add i) = some (.int .i64 x))) (ds := [10]) #[false, false, false, false, false, false, false, false, false, false, false] (by kernel_rfl) rfl rfl ⟨(DrS.cells DRd).2.2, HEX.out⟩ (fun hHeld => ?_); refine with_tabW draw12_tab draw12_bits (fun HT_ HW_ => ?_)
          generalize wr.drew = wS at DRd HOd hHeld ⊢
          refine zP HT_ 0 (some 50) rfl rfl ?_
          refine zT HT_ HW_ hHeld 1 (some 51) rfl rfl ?_
          refine zP HT_ 2 (some 52) rfl rfl ?_
          refine zP HT_ 3 (some 53) rfl rfl ?_
          refine zP HT_ 4 (some 54) rfl rfl ?_
          refine zT HT_ HW_ hHeld 5 (some 55) rfl rfl ?_
          refine zP HT_ 6 (some 56) rfl rfl ?_
          refine zP HT_ 7 (some 57) rfl rfl ?_
          refine zP HT_ 8 (some 58) rfl rfl ?_
          refine zP HT_ 9 (some 59) rfl rfl ?_
          refine last_ (i := 10) (N := none) #[true, true, true, true, true, true, true, true, true, true, true] rfl rfl (one_of HT_.out (by kernel_rfl)) (by decide) (fun K hK => ?_)
          have HBX : Aside0 (wS.heap[gb]? = some (.cells #[.int .i64 W, .int .i64 H, .int .i64 E'] 25 (0, 0))) := ⟨DRd.out.box⟩
          have hcc := (zc3 HBX).2.2
          have hff := (zf3 HBX).2.2
          refine skip_ (w1 := ?_) (by rfl) rfl ?_ ?_
          rotate_left
          · go_simp
            rfl
          refine hK.out _ _ ?_
          clear hK K
          refine done_ (done_of HT_.out (by kernel_rfl)) ?_
          have DR2 := DrS.put DRd M5 (Go.bits .or .i64 E' (wrap64 (2 ^ min x.toNat 64)))
          have HOR2 : Aside0 (Kd.R (Kd.int .i64) 2 (wS.setCell ⟨gb, 2, none⟩ (.int .i64 (Go.bits .or .i64 E' (wrap64 (2 ^ min x.toNat 64))))) w0.heap.size (fun _ => True) (.slice (some ad) od.length co) od) := ⟨Kd.R_set HOd.out DRd.out.box (by intro q hq; simp [Kd.int, Kd.scalar] at hq; omega) 2 _⟩
          go_wp2
          go_roundg (od.length + 1 - (i + 1))
          case measure => omega
          case rel => exact ⟨i + 1, _, by first | rw [HIW.out] | rfl, by omega, by omega, HE2, HOR2, by rw [HSX.out]; exact DR2⟩
        · have hltb : decide ((i : Int) < (od.length : Int)) = false := decide_eq_false (by omega)
          have hE : E' = E := by
            have h1 := HE.out
            rw [List.drop_eq_nil_of_le (by omega)] at h1
            simpa [edgesF] using h1
          subst hE
          have HRS : Aside0 (wr.heap[gr]? = some (.cells #[.int .i64 0, .int .i64 0, .int .i64 0] 25 (0, 0))) := ⟨DR.out.dr.res⟩
          obtain ⟨p0, p1, p2⟩ := DrS.cells DR
          obtain ⟨r0, r1, r2⟩ := zc3 HRS
          obtain ⟨z0, z1, z2⟩ := zf3 HRS
          clear HE
          go_wp2
          refine bodyPost_ret (results_cell_row rfl _ _ gr 25 #[.int .i64 W, .int .i64 H, .int .i64 E'] (0, 0) _ rfl (blk_put (cs := #[.int .i64 W, .int .i64 H, .int .i64 0]) (blk_put (cs := #[.int .i64 W, .int .i64 0, .int .i64 0]) (blk_put HRS.out 0 _ rfl) 1 _ rfl) 2 _ rfl) Try.underlying25 rfl (by kernel_rfl)) rfl ?_
          have hne : g ≠ gr := fun e => N1.out.1 e.symm
          exact ⟨rfl, ((DR.out.dr.src.far hne _).far hne _).far hne _, below_set (below_set (below_set DR.out.dr.below N1.out.2.2) N1.out.2.2) N1.out.2.2, keep_far (keep_far (keep_far DR.out.dr.keep N1.out.2.1 _) N1.out.2.1 _) N1.out.2.1 _⟩
    | succ d =>
      have hlt : decide ((ee : Int) < n) = true := decide_eq_true (by omega)
      have hA := HA.out
      simp only [orderF] at hA
      obtain ⟨⟨x, a', h'⟩, AX, hA⟩ := zb hA
      split at hA
      rotate_left
      · cases hA
      rename_i hx
      have HA2 := Aside0.mk hA
      have HX := Aside0.mk hx
      replace AX : Aside0 (spec_l01Next.f cl a h ((ee : Int) + 1) = some (x, a', h')) := ⟨by have := AX.out; rwa [show ((ee + 1 : Nat) : Int) = (ee : Int) + 1 from rfl] at this⟩
      have hee : ee ≤ 100 := hx.2.2
      clear HA hA hx
      go_wp2_with (first
        | (go_at_call 51; with_reducible refine (spec_l03Count.calls W H 0 n _ (A5.out 0)).mono ?_; rintro e w1 ⟨rfl, hb⟩; have D1 := DrS.step DR hb; have HO1 := Aside0.mk (Kd.R_below HOr.out hb); clear DR HOr hb p0 p1 p2)
        | (go_at_call 65; with_reducible refine (spec_l01Next.calls g cl a h ((ee : Int) + 1) x a' h' w0 _ D1.out.dr.src D1.out.dr.below AX.out).mono ?_; rintro e w2 ⟨rfl, hi, hb, hk⟩; have D2 := DrS.next D1 N1 M5 hi hb hk; have HO2 := Aside0.mk (Kd.R_keep (IsS89.apart D1.out.dr.src HO1.out (by decide)) hk (fun _ hk => hk.2)); clear D1 HO1 hi hb hk AX))
      have hx0 := HX.out
      obtain ⟨i0, hi0, _, hsz, _⟩ := info_parts info2
      have HRD := Aside0.mk (Kd.R_reads' HO2.out)
      have hcut1 := cut_to (P := Try.prog) 29 2 .i64 Try.underlying29 hi0 Ao od.length co x hx0.1.1 hx0.1.2 HRD.out.2.1
      have hcut2 := cut_from (P := Try.prog) 29 2 .i64 Try.underlying29 hi0 1 hsz Ao od.length co x hx0.1.1 hx0.1.2
      have hr1 := Kd.C_take (m := x.toNat) HRD.out.2.2 (by omega)
      have hr2 := Kd.C_drop (m := x.toNat) (c := co) HRD.out.2.2 (by omega) HRD.out.2.1
      have hy1 : (od.take x.toNat).length = x.toNat := by rw [List.length_take]; omega
      have hy2 : (od.drop x.toNat).length = od.length - x.toNat := by rw [List.length_drop]
      rw [← hy1] at hcut1
      obtain ⟨A2_, hA2⟩ : ∃ A1, A1 = (if co = x.toNat then Ao else Ao.map (·.add (x.toNat * 1))) := ⟨_, rfl⟩
      obtain ⟨c2_, hc2⟩ : ∃ c1, c1 = co - x.toNat := ⟨_, rfl⟩
      have hr2' : Kd.C (Kd.int .i64) w2 A2_ (od.drop x.toNat).length (od.drop x.toNat) := by rw [hA2]; exact hr2
      rw [← hy2, ← hA2, ← hc2] at hcut2
      have hle1 : (od.take x.toNat).length ≤ co := by have := HRD.out.2.1; omega
      have hown : spec_l01Own.f (od.take x.toNat) = some (od.take x.toNat) := by
        unfold spec_l01Own.f
        rw [Option.bind_some, if_pos (by simp only [List.length_nil]; omega)]
        rfl
      generalize ht1 : od.take x.toNat = t1 at hcut1 hr1 hle1 hown HA2 hy1
      generalize ht2 : od.drop x.toNat = t2 at hcut2 hr2' HA2 hy2
      have HC1 := Aside0.mk hr1
      have HC2 := Aside0.mk hr2'
      have HL1 := Aside0.mk hle1
      have HOW := Aside0.mk hown
      have HLEN := Aside0.mk (show t1.length + t2.length ≤ 1000 from by omega)
      clear hr1 hr2 hr2' hle1 hown hi0 hsz hx0 hy1 hy2 hA2 hc2 ht1 ht2 HRD HO2
      refine start_ (n := 12) (S := (fun _ => True)) (ds := []) #[false, false, false, false, false, false, false, false, false, false, false, false] (by kernel_rfl) rfl rfl trivial (fun hHeld => ?_); refine with_tabW draw8_tab draw8_bits (fun HT_ HW_ => ?_)
      replace D2 := DrS.step D2 (below_drew (Below.refl _ _))
      replace HC1 := Aside0.mk (Kd.C_drew HC1.out)
      replace HC2 := Aside0.mk (Kd.C_drew HC2.out)
      generalize w2.drew = wS at D2 HC1 HC2 hHeld ⊢
      have HD0 : Aside0 (D8 wS (ee : Int) 0 0 t1 undef 0 wS) := D8.start
      refine zP HT_ 0 (some 32) rfl rfl ?_
      refine zP HT_ 1 (some 33) rfl rfl ?_
      refine zP HT_ 2 (some 34) rfl rfl ?_
      refine zP HT_ 4 (some 36) rfl rfl ?_
      refine zP HT_ 7 (some 39) rfl rfl ?_
      refine zP HT_ 8 (some 40) rfl rfl ?_
      refine zP HT_ 9 (some 41) rfl rfl ?_
      refine join_ (σ := Value × Nat) (3) #[true, true, true, true, true, true, false, true, true, true, false, false] (fun s => [(35, s.1), (37, .slice (some ⟨s.2, 0, none⟩) 1 1)]) (fun s w' => D8 wS (ee : Int) 1 1 t1 s.1 s.2 w') ?hcont (fun hcont => ?h)
      case h =>
        refine two_ (i := 3) (j := 5) (Ni := some 35) (Nj := some 37) #[true, true, true, true, true, false, false, true, true, true, false, false] #[true, true, true, false, true, true, false, true, true, true, false, false] rfl rfl rfl rfl (two_of HT_.out (by kernel_rfl)) (by decide) (by decide) (fun K hK => ?_) (fun K hK => ?_)
        · refine goes_ Try.func67 (by kernel_rfl) rfl #[.slice Ao t1.length co] (by rfl) rfl rfl zM ?_
          with_reducible refine (spec_l01Own.calls Ao co t1 t1 _ (Kd.C_below HC1.out HD0.out.below) HL1.out HOW.out).mono ?_
          rintro e w21 ⟨v21, rfl, ho, hb⟩
          have HD21 := D8.own HD0 ho hb
          clear ho hb
          refine ⟨_, rfl, ?_⟩
          refine hK.out _ _ trivial (fun hHeld => ?_)
          clear hK K
          refine zW (some 35) ?_
          refine one_ (i := 5) (N := some 37) #[true, true, true, true, true, true, false, true, true, true, false, false] rfl rfl (one_of HT_.out (by kernel_rfl)) (by decide) (fun K hK => ?_)
          obtain ⟨w22, ew⟩ : ∃ z, z = w21.alloc (.cells #[.int .i64 (ee : Int)] 2) := ⟨_, rfl⟩
          obtain ⟨z22, ez⟩ : ∃ z, z = w21.heap.size := ⟨_, rfl⟩
          refine event_step (w1 := w22) (v := .slice (some ⟨z22, 0, none⟩) 1 1) (by rfl) (by rw [ew, ez]; first | (go_simp; done) | (go_simp; rfl)) ?_
          have HD22 := D8.lit HD21 ew ez
          clear ew ez
          refine hK.out _ _ trivial (fun hHeld => ?_)
          clear hK K
          refine zW (some 37) ?_
          refine norm_ ?_ (hcont (v21, z22) w22 HD22.out)
          simp only [putAll, Act.put, List.setIfInBounds_toArray, List.set_cons_zero, List.set_cons_succ]
        · obtain ⟨w31, ew⟩ : ∃ z, z = wS.alloc (.cells #[.int .i64 (ee : Int)] 2) := ⟨_, rfl⟩
          obtain ⟨z31, ez⟩ : ∃ z, z = wS.heap.size := ⟨_, rfl⟩
          refine event_step (w1 := w31) (v := .slice (some ⟨z31, 0, none⟩) 1 1) (by rfl) (by rw [ew, ez]; first | (go_simp; done) | (go_simp; rfl)) ?_
          have HD31 := D8.lit HD0 ew ez
          clear ew ez
          refine hK.out _ _ trivial (fun hHeld => ?_)
          clear hK K
          refine zW (some 37) ?_
          refine one_ (i := 3) (N := some 35) #[true, true, true, true, true, true, false, true, true, true, false, false] rfl rfl (one_of HT_.out (by kernel_rfl)) (by decide) (fun K hK => ?_)
          refine goes_ Try.func67 (by kernel_rfl) rfl #[.slice Ao t1.length co] (by rfl) rfl rfl zM ?_
          with_reducible refine (spec_l01Own.calls Ao co t1 t1 _ (Kd.C_below HC1.out HD31.out.below) HL1.out HOW.out).mono ?_
          rintro e w32 ⟨v32, rfl, ho, hb⟩
          have HD32 := D8.own HD31 ho hb
          clear ho hb
          refine ⟨_, rfl, ?_⟩
          refine hK.out _ _ trivial (fun hHeld => ?_)
          clear hK K
          refine zW (some 35) ?_
          refine norm_ ?_ (hcont (v32, z31) w32 HD32.out)
          simp only [putAll, Act.put, List.setIfInBounds_toArray, List.set_cons_zero, List.set_cons_succ]
      case hcont =>
        rintro ⟨v, z⟩ w6 HF6
        have HF := Aside0.mk HF6
        clear HF6 hHeld HD0
        have hHeld : True := trivial
        refine norm_ (a' := ?_) ?_ ?_
        rotate_left
        · simp only [putAll, Act.put, List.setIfInBounds_toArray, List.set_cons_zero, List.set_cons_succ]
          rfl
        refine one_ (i := 6) (N := some 38) #[true, true, true, true, true, true, true, true, true, true, false, false] rfl rfl (one_of HT_.out (by kernel_rfl)) (by decide) (fun K hK => ?_)
        refine Kd.R_append_rows_step (Kd.int .i64) (w0 := wS) wS.heap.size (by rfl) (.tmp 35) (.tmp 37) 29 2 (.int .i64 0) 8 rfl Try.underlying29 info2 rfl (by decide) (by omega) v t1 [(ee : Int)] _ _ _ (fun _ => True) (fun _ => False) rfl rfl (Kd.R_mono (HF.out.a1 rfl) (fun _ _ => trivial)) (D8.row HF) (fun _ _ h => h) (fun _ h => h.elim) (fun _ _ => trivial) HF.out.below HF.out.below.size (by have := HLEN.out; simp; omega) ?_
        intro v7 w7 ho hb hg _
        have HO_w7 := Aside0.mk ho
        have HB_w7 := Aside0.mk hb
        clear ho hb hg
        refine hK.out _ _ trivial (fun hHeld => ?_)
        clear hK K
        refine zW (some 38) ?_
        refine one_ (i := 10) (N := some 42) #[true, true, true, true, true, true, true, true, true, true, true, false] rfl rfl (one_of HT_.out (by kernel_rfl)) (by decide) (fun K hK => ?_)
        refine Kd.R_append_rows_step (Kd.int .i64) (w0 := wS) wS.heap.size (by rfl) (.tmp 38) (.tmp 41) 29 2 (.int .i64 0) 8 rfl Try.underlying29 info2 rfl (by decide) (by omega) v7 (t1 ++ [(ee : Int)]) t2 _ _ _ (fun _ => True) (fun _ => False) rfl rfl (HO_w7.out) (Kd.C_below HC2.out HB_w7.out) (fun _ _ h => h) (fun _ h => h.elim) (fun _ _ => trivial) HB_w7.out HB_w7.out.size (by have := HLEN.out; simp; omega) ?_
        intro v8 w8 ho hb hg _
        have HO_w8 := Aside0.mk ho
        have HB_w8 := Aside0.mk hb
        clear ho hb hg
        refine hK.out _ _ trivial (fun hHeld => ?_)
        clear hK K
        refine zW (some 42) ?_
        refine zP HT_ 11 (some 5) rfl rfl ?_
        refine done_ (done_of HT_.out (by kernel_rfl)) ?_
        have D9 := DrS.step D2 HB_w8.out
        have HO9 := Aside0.mk (Kd.R_lower HO_w8.out (below_size D2.out.dr.below))
        go_wp2
        go_roundg d
        case measure => omega
        case rel => exact ⟨ee + 1, d, _, a', h', rfl, by omega, Nat.le_refl _, HA2, HO9, D9⟩
theorem spec_l03Draw.calls (g : Nat) (cl : List Int) (s1 s2 : Int) (r1 r2 r3 r4 r5 : Int) (w0 w : World) (hI : IsS89 w0 w g cl s1 s2) (hB : Below w0.heap.size w0 w) (h : spec_l03Draw.f cl s1 s2 = some (r1, r2, r3, r4, r5)) :
    Calls Try.prog 45 #[.pointer (some ⟨g, 0, none⟩)] w fun e w' => e = .returned (.agg #[.int .i64 r1, .int .i64 r2, .int .i64 r3]) ∧ IsS89 w0 w' g cl r4 r5 ∧ Below w0.heap.size w0 w' ∧ KeepBut w w' g none := by
  unfold spec_l03Draw.f at h
  obtain ⟨⟨x1, a1, h1⟩, A1, h⟩ := zb h
  obtain ⟨⟨x2, a2, h2⟩, A2, h⟩ := zb h
  obtain ⟨⟨x3, a3, h3⟩, A3, h⟩ := zb h
  obtain ⟨⟨x4, a4, h4⟩, A4, h⟩ := zb h
  split at h
  rotate_left
  · cases h
  rename_i hr
  obtain ⟨n, A5, h⟩ := zb h
  split at h
  rotate_left
  · cases h
  rename_i hn
  obtain ⟨⟨o, a6, h6⟩, A6, h⟩ := zb h
  split at h
  rotate_left
  · cases h
  rename_i ho
  obtain ⟨E, A7, h⟩ := zb h
  simp only [Option.some.injEq, Prod.mk.injEq] at h
  obtain ⟨rfl, rfl, rfl, rfl, rfl⟩ := h
  dsimp only at hr ho
  exact draw3_walk g cl s1 s2 _ _ E x1 a1 h1 x2 a2 h2 x3 a3 h3 x4 a4 h4 n a6 h6 o _ w0 w ⟨hI⟩ ⟨hB⟩ A1 A2 A3 ⟨rfl⟩ A4 (wrap_one x1 (by omega) (by omega)) (wrap_one x2 (by omega) (by omega)) ⟨hr.2.2⟩ ⟨fun _ => A5.out⟩ ⟨hn⟩ A6 ⟨ho⟩ A7
end Go.Proofs.Ytelfllbjcpndfaa.Q
