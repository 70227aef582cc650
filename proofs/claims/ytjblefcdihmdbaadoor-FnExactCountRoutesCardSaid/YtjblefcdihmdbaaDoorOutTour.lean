/-
  impl.tour at whatever function that accepts cars: the cars that are met, in the order in which they are met, each with the place of that before it, the move from there and how far it lies; told as the printed functions are. The rows within memory's reach, at most 1,000,000 cars.
-/
import Derived.Test.YtjblefcdihmdbaaDoorOutMoves
import Derived.Test.YtjblefcdihmdbaaDoorTabM
import Derived.Carry
import Derived.DeepKeys4
namespace Go.Proofs.YtjblefcdihmdbaaDoor.Q
open Go.RowKit Go.Proofs.YtjblefcdihmdbaaDoorW.PrintWords Go.Proofs.YtjblefcdihmdbaaDoorW.PrintLast Go.Proofs.YtjblefcdihmdbaaDoorW.PrintMore
open Go.Maps (Keyed)
set_option linter.unusedVariables false

abbrev Q4 := Int × Int × Int × Int
abbrev Trip := S54
def keyT (t : Trip) : Q4 := (t.f0.f0, t.f0.f1, t.f0.f2, t.f0.f3)
def mkTrip (q : Q4) (before move far : Int) : Trip := ⟨⟨q.1, q.2.1, q.2.2.1, q.2.2.2⟩, before, move, far⟩
theorem keyT_mk (q : Q4) (x y z : Int) : keyT (mkTrip q x y z) = q := rfl
def trip0 (c0 c1 c2 c3 : Int) : Trip := ⟨⟨c0, c1, c2, c3⟩, -1, 0, 0⟩
def tripAt (l : List Trip) (i : Int) : Trip := rd_T54 l i
/-- Behind the moves ms of the trip i, a car q that lies so far. -/
def addF (i far : Int) (q : Q4) : List Int → List Trip → Option (List Trip)
  | [], l => some l
  | m :: ms, l => (impl_Car_driven.f q.1 q.2.1 q.2.2.1 q.2.2.2 m).bind fun n => if n ∈ l.map keyT then addF i far q ms l else if l.length < 1000000 then addF i far q ms (l ++ [mkTrip n i m (wrap64 (far + 1))]) else none
def tourF (acc : Q4 → Option Bool) (k : Nat) (rows : List ByteArray) (most : Int) : Nat → List Trip → Int → Option (List Trip × Int)
  | 0, _, _ => none
  | d + 1, l, i => if i < (l.length : Int) then if 0 ≤ i then (acc (keyT (tripAt l i))).bind fun b => if b = true then some (l, i) else if (tripAt l i).f3 = most then tourF acc k rows most d l (wrap64 (i + 1)) else
      (impl_openMoves.f k rows (keyT (tripAt l i)).1 (keyT (tripAt l i)).2.1 (keyT (tripAt l i)).2.2.1 (keyT (tripAt l i)).2.2.2).bind fun ms => (addF i (tripAt l i).f3 (keyT (tripAt l i)) ms l).bind fun l' => tourF acc k rows most d l' (wrap64 (i + 1)) else none else some (l, -1)
def wfQ (q : Q4) : Prop := (Lit.int .i64 q.1).wf = true ∧ (Lit.int .i64 q.2.1).wf = true ∧ (Lit.int .i64 q.2.2.1).wf = true ∧ (Lit.int .i64 q.2.2.2).wf = true
theorem tourF_mono (acc acc' : Q4 → Option Bool) (ha : ∀ q, LeO (acc q) (acc' q)) (k : Nat) (rows : List ByteArray) (most : Int) (d : Nat) : ∀ l i, LeO (tourF acc k rows most d l i) (tourF acc' (k + 1) rows most (d + 1) l i) := by
  induction d with
  | zero => intro l i r h; cases h
  | succ d ih =>
    intro l i
    rw [tourF.eq_2 acc', tourF.eq_2 acc]
    exact LeO.ite (LeO.ite (LeO.bind (ha _) (fun b => LeO.ite (LeO.refl _) (LeO.ite (ih _ _) (LeO.bind (impl_openMoves.mono _ _ _ _ _ _) (fun ms => LeO.bind (LeO.refl _) (fun l' => ih _ _)))))) (LeO.refl _)) (LeO.refl _)

theorem tourLaid : laidOutB Tryd.prog = true := by kernel_rfl
theorem carLaw : Keyed Tryd.prog 28 := Keyed.of_law (deep_law_laid tourLaid (m := 5) (by decide) (of_decide_eq_true (by kernel_rfl)) (by kernel_rfl) (by kernel_rfl))
def mkQ (q : Q4) : Value := .agg #[.int .i64 q.1, .int .i64 q.2.1, .int .i64 q.2.2.1, .int .i64 q.2.2.2]
theorem mkQ_inj (a b : Q4) (h : mkQ a = mkQ b) : a = b := by
  obtain ⟨a0, a1, a2, a3⟩ := a
  obtain ⟨b0, b1, b2, b3⟩ := b
  simp only [mkQ, Value.agg.injEq] at h
  have h1 := congrArg Array.toList h
  simp at h1
  obtain ⟨rfl, rfl, rfl, rfl⟩ := h1
  rfl
theorem car_key (q : Q4) (h : wfQ q) : ∃ l, keyOf Tryd.prog 28 (mkQ q) = some l := by
  have e : keyOf Tryd.prog 28 (mkQ q) = (Tryd.prog.keyLits (Tryd.prog.types.size + 1) 28 [.int .i64 q.1, .int .i64 q.2.1, .int .i64 q.2.2.1, .int .i64 q.2.2.2]).map fun ls => .string (keyBytes ls) := by kernel_rfl
  have hz : Tryd.prog.types.size + 1 = (Tryd.prog.types.size - 1) + 2 := by
    have : 1 ≤ Tryd.prog.types.size := of_decide_eq_true (by kernel_rfl)
    omega
  rw [e, hz]
  generalize Tryd.prog.types.size - 1 = n
  have c1 : Tryd.prog.cellsOf 28 = 4 := by kernel_rfl
  have c3 : Tryd.prog.cellsOf 2 = 1 := by kernel_rfl
  simp [Program.keyLits, Tryd.underlying28, Tryd.underlying2, c1, c3]
  rw [show List.range 4 = [0, 1, 2, 3] from rfl]
  simp [h.1, h.2.1, h.2.2.1, h.2.2.2]
theorem infoTrip : (Tryd.prog.info? 54).map (fun i => (i.zero, i.size, i.bytes)) = some (some (.agg #[.int .i64 0, .int .i64 0, .int .i64 0, .int .i64 0, .int .i64 0, .int .i64 0, .int .i64 0]), 7, 56) := by kernel_rfl
theorem reps_trip {w : World} {base : Nat} {ok : Nat → Prop} (c0 c1 c2 c3 : Int) : Reps (k54.M w base ok) 7 [trip0 c0 c1 c2 c3] [.int .i64 c0, .int .i64 c1, .int .i64 c2, .int .i64 c3, .int .i64 (-1), .int .i64 0, .int .i64 0] :=
  Reps.front (k54_mkM _ _ _ (trip0 c0 c1 c2 c3)) rfl (Reps.none _ _) rfl

/-- Behind the first step: the rows, the first car's variable. -/
structure BoxT (A : Option Addr) (c : Nat) (rows : List ByteArray) (c0 c1 c2 c3 : Int) (w0 w : World) : Prop where
  reads : Kd.C Kd.string w A rows.length rows
  car : w.heap[w0.heap.size]? = some (.cells #[.int .i64 c0, .int .i64 c1, .int .i64 c2, .int .i64 c3] 28 (0, 0))
  below : Below w0.heap.size w0 w
  lt : w0.heap.size < w.heap.size
/-- The map of the cars that have been met. -/
structure MapT (f : Q4 → Option Bool) (b : Nat) (w0 w : World) : Prop where
  tab : TabM Tryd.prog 28 mkQ Value.bool f w b
  ge : w0.heap.size ≤ b
section
variable {A : Option Addr} {c : Nat} {rows : List ByteArray} {c0 c1 c2 c3 : Int} {w0 w w' : World} {f : Q4 → Option Bool} {b : Nat}
theorem BoxT.step (h : Aside0 (BoxT A c rows c0 c1 c2 c3 w0 w)) (hb : Below w.heap.size w w') : Aside0 (BoxT A c rows c0 c1 c2 c3 w0 w') := ⟨Kd.C_below h.out.reads hb, blk_below h.out.car hb, below_then h.out.below h.out.below.size hb, Nat.lt_of_lt_of_le h.out.lt hb.size⟩
theorem BoxT.cells (h : Aside0 (BoxT A c rows c0 c1 c2 c3 w0 w)) : w.cell? ⟨w0.heap.size, 0, none⟩ = some (.int .i64 c0) ∧ w.cell? ⟨w0.heap.size, 1, none⟩ = some (.int .i64 c1) ∧ w.cell? ⟨w0.heap.size, 2, none⟩ = some (.int .i64 c2) ∧ w.cell? ⟨w0.heap.size, 3, none⟩ = some (.int .i64 c3) ∧ Aside0 (BoxT A c rows c0 c1 c2 c3 w0 w) :=
  ⟨blk_cell h.out.car 0, blk_cell h.out.car 1, blk_cell h.out.car 2, blk_cell h.out.car 3, h⟩
theorem MapT.step (h : Aside0 (MapT f b w0 w)) (hb : Below w.heap.size w w') : Aside0 (MapT f b w0 w') := ⟨h.out.tab.below hb, h.out.ge⟩
theorem grown_from {w1 w2 : World} (h : Below w0.heap.size w0 w1) (hb : w0.heap.size ≤ b) (hg : w1.grownBy w2 (some b)) : Below w0.heap.size w0 w2 :=
  ⟨hg.os.trans h.os, hg.tape.trans h.tape, hg.output.trans h.output, Nat.le_trans h.size hg.size, fun k hk => (hg.block k (Nat.lt_of_lt_of_le hk h.size) (by intro e; injection e with e; omega)).trans (h.block k hk)⟩
/-- Rows that came in lie ahead of what the call makes. -/
theorem came_C {w1 : World} {n : Nat} {α : Type} {d : Kd α} {xs : List α} (h : Kd.C d w A n xs) (hb : Below w.heap.size w w1) : Kd.C d w1 A n xs := Kd.C_below h hb
theorem own_beside {l : List Trip} {v : Value} {base : Nat} (h : Kd.R k54 54 w base (fun _ => True) v l) (ht : TabM Tryd.prog 28 mkQ Value.bool f w b) (hg : w.grownBy w' (some b)) : Kd.R k54 54 w' base (fun _ => True) v l :=
  Kd.R_mono (Kd.R_step (Kd.R_bound h) (fun k hk hlt => by
    obtain ⟨_, _, _, q, _, cells, hc⟩ := hk
    exact hg.block k hlt (ht.ne hc))) (fun _ _ => trivial)
theorem made_map (h : Aside0 (BoxT A c rows c0 c1 c2 c3 w0 w)) : ∃ b w', (w.heap.size = b ∧ w.alloc (.map #[] 0) = w') ∧ Aside0 (MapT (fun _ => none) b w0 w') ∧ Below w.heap.size w w' :=
  ⟨w.heap.size, w.alloc (.map #[] 0), ⟨rfl, rfl⟩, ⟨TabM.made w _ _ _ _, h.out.below.size⟩, (Below.refl _ _).alloc (Nat.le_refl _) _⟩
end
/-- What the map says of a list of trips. -/
def setOf (l : List Trip) : Q4 → Option Bool := fun q => if q ∈ l.map keyT then some true else none
section
variable {A : Option Addr} {c : Nat} {rows : List ByteArray} {c0 c1 c2 c3 : Int} {w0 w w' : World} {b : Nat}
theorem put_car (wf : wfQ (c0, c1, c2, c3)) (h : Aside0 (MapT (fun _ => none) b w0 w)) : ∃ w', (Instr.mapUpdate 69 (.map (some b)) (.agg #[.int .i64 c0, .int .i64 c1, .int .i64 c2, .int .i64 c3]) (.bool true)).run Tryd.prog w = .ok () w' ∧ Aside0 (MapT (setOf [trip0 c0 c1 c2 c3]) b w0 w') ∧ w.grownBy w' (some b) := by
  obtain ⟨w', h1, h2, h3⟩ := h.out.tab.store carLaw Tryd.underlying69 mkQ_inj [] (by decide) (fun _ _ h => by cases h) (c0, c1, c2, c3) true (car_key _ wf)
  refine ⟨w', h1, ⟨TabM.same h2 (fun q => ?_), h.out.ge⟩, h3⟩
  simp [setOf, keyT, trip0]
theorem BoxT.turned {f : Q4 → Option Bool} (h : Aside0 (BoxT A c rows c0 c1 c2 c3 w0 w)) (hr : Kd.C Kd.string w0 A rows.length rows) (hm : Aside0 (MapT f b w0 w)) (hg : w.grownBy w' (some b)) : Aside0 (BoxT A c rows c0 c1 c2 c3 w0 w') :=
  ⟨Kd.C_below hr (grown_from h.out.below hm.out.ge hg), (hg.block _ h.out.lt (hm.out.tab.ne h.out.car)).trans h.out.car, grown_from h.out.below hm.out.ge hg, Nat.lt_of_lt_of_le h.out.lt hg.size⟩
end
/-- Behind the first region. -/
structure FirstT (A : Option Addr) (c : Nat) (rows : List ByteArray) (c0 c1 c2 c3 : Int) (w0 : World) (v : Value) (b : Nat) (w : World) : Prop where
  box : BoxT A c rows c0 c1 c2 c3 w0 w
  own : Kd.R k54 54 w w0.heap.size (fun _ => True) v [trip0 c0 c1 c2 c3]
  map : MapT (setOf [trip0 c0 c1 c2 c3]) b w0 w
theorem setOf_snoc (l : List Trip) (n : Q4) (x y z : Int) (q : Q4) : setOf (l ++ [mkTrip n x y z]) q = if q = n then some true else setOf l q := by
  unfold setOf
  simp only [List.map_append, List.map_cons, List.map_nil, keyT_mk, List.mem_append, List.mem_singleton]
  by_cases h : q = n
  · simp [h]
  · simp [h]
theorem driven_wf {a0 a1 a2 a3 m : Int} {n : Q4} (h : impl_Car_driven.f a0 a1 a2 a3 m = some n) : wfQ n := by
  unfold impl_Car_driven.f at h
  obtain rfl := Option.some.inj h
  exact ⟨wrap64_wf _, wrap64_wf _, wrap64_wf _, wrap64_wf _⟩
/-- At the head of the loop: the rows, the trips, the map. -/
structure LoopT (A : Option Addr) (rows : List ByteArray) (b : Nat) (w0 : World) (v : Value) (l : List Trip) (w : World) : Prop where
  reads : Kd.C Kd.string w A rows.length rows
  own : Kd.R k54 54 w w0.heap.size (fun _ => True) v l
  map : MapT (setOf l) b w0 w
  below : Below w0.heap.size w0 w
/-- In the inner loop: a trip's variable and the open moves besides. -/
structure InT (A : Option Addr) (rows : List ByteArray) (b : Nat) (w0 : World) (gt : Nat) (tv : Trip) (u : Value) (ms : List Int) (v : Value) (l : List Trip) (w : World) : Prop where
  own : Kd.R k54 54 w w0.heap.size (fun kk => kk ≠ gt) v l
  map : MapT (setOf l) b w0 w
  below : Below w0.heap.size w0 w
  trip : w.heap[gt]? = some (.cells #[.int .i64 tv.f0.f0, .int .i64 tv.f0.f1, .int .i64 tv.f0.f2, .int .i64 tv.f0.f3, .int .i64 tv.f1, .int .i64 tv.f2, .int .i64 tv.f3] 54 (0, 0))
  moves : Kd.R (Kd.int .i64) 2 w w0.heap.size (fun _ => True) u ms
section
variable {A : Option Addr} {rows : List ByteArray} {b : Nat} {w0 w w' : World} {v u : Value} {l : List Trip} {gt : Nat} {tv : Trip} {ms : List Int}
theorem LoopT.step (h : Aside0 (LoopT A rows b w0 v l w)) (hb : Below w.heap.size w w') : Aside0 (LoopT A rows b w0 v l w') := ⟨Kd.C_below h.out.reads hb, Kd.R_below h.out.own hb, ⟨h.out.map.tab.below hb, h.out.map.ge⟩, below_then h.out.below h.out.below.size hb⟩
theorem InT.step (h : Aside0 (InT A rows b w0 gt tv u ms v l w)) (hb : Below w.heap.size w w') : Aside0 (InT A rows b w0 gt tv u ms v l w') := ⟨Kd.R_below h.out.own hb, ⟨h.out.map.tab.below hb, h.out.map.ge⟩, below_then h.out.below h.out.below.size hb, blk_below h.out.trip hb, Kd.R_below h.out.moves hb⟩
theorem InT.cells (h : Aside0 (InT A rows b w0 gt tv u ms v l w)) : w.cell? ⟨gt, 0, none⟩ = some (.int .i64 tv.f0.f0) ∧ w.cell? ⟨gt, 1, none⟩ = some (.int .i64 tv.f0.f1) ∧ w.cell? ⟨gt, 2, none⟩ = some (.int .i64 tv.f0.f2) ∧ w.cell? ⟨gt, 3, none⟩ = some (.int .i64 tv.f0.f3) ∧ w.cell? ⟨gt, 4, none⟩ = some (.int .i64 tv.f1) ∧ w.cell? ⟨gt, 5, none⟩ = some (.int .i64 tv.f2) ∧ w.cell? ⟨gt, 6, none⟩ = some (.int .i64 tv.f3) :=
  ⟨blk_cell h.out.trip 0, blk_cell h.out.trip 1, blk_cell h.out.trip 2, blk_cell h.out.trip 3, blk_cell h.out.trip 4, blk_cell h.out.trip 5, blk_cell h.out.trip 6⟩
theorem InT.loop (h : Aside0 (InT A rows b w0 gt tv u ms v l w)) (hr : Kd.C Kd.string w0 A rows.length rows) : Aside0 (LoopT A rows b w0 v l w) := ⟨Kd.C_below hr h.out.below, Kd.R_mono h.out.own (fun _ _ => trivial), h.out.map, h.out.below⟩
theorem own_beside2 {α : Type} {d : Kd α} {e : Nat} {xs : List α} {base : Nat} {ok : Nat → Prop} {f : Q4 → Option Bool} (h : Kd.R d e w base ok v xs) (ht : TabM Tryd.prog 28 mkQ Value.bool f w b) (hg : w.grownBy w' (some b)) : Kd.R d e w' base ok v xs :=
  Kd.R_mono (Kd.R_step (Kd.R_bound h) (fun k hk hlt => by
    obtain ⟨_, _, _, q, _, cells, hc⟩ := hk
    exact hg.block k hlt (ht.ne hc))) (fun _ hk => hk.1)
/-- Behind the map's turn. -/
theorem InT.turned {f : Q4 → Option Bool} (h : Aside0 (InT A rows b w0 gt tv u ms v l w)) (hg : w.grownBy w' (some b)) : Kd.R k54 54 w' w0.heap.size (fun kk => kk ≠ gt) v l ∧ Below w0.heap.size w0 w' ∧ w'.heap[gt]? = some (.cells #[.int .i64 tv.f0.f0, .int .i64 tv.f0.f1, .int .i64 tv.f0.f2, .int .i64 tv.f0.f3, .int .i64 tv.f1, .int .i64 tv.f2, .int .i64 tv.f3] 54 (0, 0)) ∧ Kd.R (Kd.int .i64) 2 w' w0.heap.size (fun _ => True) u ms :=
  ⟨own_beside2 h.out.own h.out.map.tab hg, grown_from h.out.below h.out.map.ge hg, blk_grown h.out.trip hg (h.out.map.tab.ne h.out.trip), own_beside2 h.out.moves h.out.map.tab hg⟩
/-- Behind the append. -/
theorem InT.added {v1 : Value} {l1 : List Trip} {f : Q4 → Option Bool} (hown : Kd.R k54 54 w w0.heap.size (fun kk => kk ≠ gt) v l) (hmap : MapT f b w0 w) (htrip : w.heap[gt]? = some (.cells #[.int .i64 tv.f0.f0, .int .i64 tv.f0.f1, .int .i64 tv.f0.f2, .int .i64 tv.f0.f3, .int .i64 tv.f1, .int .i64 tv.f2, .int .i64 tv.f3] 54 (0, 0))) (hmoves : Kd.R (Kd.int .i64) 2 w w0.heap.size (fun _ => True) u ms)
    (hown1 : Kd.R k54 54 w' w0.heap.size (fun kk => kk ≠ gt) v1 l1) (hb : Below w0.heap.size w0 w') (hg : w.grownBy w' v.ownBlock) (he : ∀ q, setOf l1 q = f q) : Aside0 (InT A rows b w0 gt tv u ms v1 l1 w') := by
  refine ⟨hown1, ⟨TabM.same (hmap.tab.kept hg (fun e => ?_)) he, hmap.ge⟩, hb, blk_grown htrip hg (fun e => hown.1 gt e.symm rfl), Kd.R_over' hmoves (Kd.R_typed hown) (by decide) hg⟩
  obtain ⟨cells, hc⟩ := Kd.R_typed hown b e.symm
  exact hmap.tab.ne hc rfl
end
theorem new_carT {w w1 : World} {n : Q4} (h : w.alloc (.cells #[.int .i64 n.1, .int .i64 n.2.1, .int .i64 n.2.2.1, .int .i64 n.2.2.2] 28) = w1) : Below w.heap.size w w1 ∧ w1.heap[w.heap.size]? = some (.cells #[.int .i64 n.1, .int .i64 n.2.1, .int .i64 n.2.2.1, .int .i64 n.2.2.2] 28 (0, 0)) := by
  subst h
  exact ⟨(Below.refl _ _).alloc (Nat.le_refl _) _, (MapKept.heap_alloc w _).1⟩
theorem car_cells {w : World} {i : Nat} {n : Q4} (h : w.heap[i]? = some (.cells #[.int .i64 n.1, .int .i64 n.2.1, .int .i64 n.2.2.1, .int .i64 n.2.2.2] 28 (0, 0))) : w.cell? ⟨i, 0, none⟩ = some (.int .i64 n.1) ∧ w.cell? ⟨i, 1, none⟩ = some (.int .i64 n.2.1) ∧ w.cell? ⟨i, 2, none⟩ = some (.int .i64 n.2.2.1) ∧ w.cell? ⟨i, 3, none⟩ = some (.int .i64 n.2.2.2) :=
  ⟨blk_cell h 0, blk_cell h 1, blk_cell h 2, blk_cell h 3⟩
theorem new_tripT {w w1 : World} {tv : Trip} (h : w.alloc (.cells #[.int .i64 tv.f0.f0, .int .i64 tv.f0.f1, .int .i64 tv.f0.f2, .int .i64 tv.f0.f3, .int .i64 tv.f1, .int .i64 tv.f2, .int .i64 tv.f3] 54) = w1) : Below w.heap.size w w1 ∧ w1.heap[w.heap.size]? = some (.cells #[.int .i64 tv.f0.f0, .int .i64 tv.f0.f1, .int .i64 tv.f0.f2, .int .i64 tv.f0.f3, .int .i64 tv.f1, .int .i64 tv.f2, .int .i64 tv.f3] 54 (0, 0)) := by
  subst h
  exact ⟨(Below.refl _ _).alloc (Nat.le_refl _) _, (MapKept.heap_alloc w _).1⟩
theorem trip_cells {w : World} {i : Nat} {tv : Trip} (h : w.heap[i]? = some (.cells #[.int .i64 tv.f0.f0, .int .i64 tv.f0.f1, .int .i64 tv.f0.f2, .int .i64 tv.f0.f3, .int .i64 tv.f1, .int .i64 tv.f2, .int .i64 tv.f3] 54 (0, 0))) : w.cell? ⟨i, 0, none⟩ = some (.int .i64 tv.f0.f0) ∧ w.cell? ⟨i, 1, none⟩ = some (.int .i64 tv.f0.f1) ∧ w.cell? ⟨i, 2, none⟩ = some (.int .i64 tv.f0.f2) ∧ w.cell? ⟨i, 3, none⟩ = some (.int .i64 tv.f0.f3) ∧ w.cell? ⟨i, 4, none⟩ = some (.int .i64 tv.f1) ∧ w.cell? ⟨i, 5, none⟩ = some (.int .i64 tv.f2) ∧ w.cell? ⟨i, 6, none⟩ = some (.int .i64 tv.f3) :=
  ⟨blk_cell h 0, blk_cell h 1, blk_cell h 2, blk_cell h 3, blk_cell h 4, blk_cell h 5, blk_cell h 6⟩
theorem setOf_mem {l : List Trip} {q : Q4} {x : Bool} (h : setOf l q = some x) : q ∈ l.map keyT := by
  unfold setOf at h
  split at h
  · assumption
  · cases h
section
variable {A : Option Addr} {rows : List ByteArray} {b : Nat} {w0 w w' : World} {v u : Value} {l : List Trip} {gt : Nat} {tv : Trip} {ms : List Int}
theorem look_in (h : Aside0 (InT A rows b w0 gt tv u ms v l w)) {n : Q4} (wf : wfQ n) (hm : n ∈ l.map keyT) : (Instr.lookup 69 (.map (some b)) (.agg #[.int .i64 n.1, .int .i64 n.2.1, .int .i64 n.2.2.1, .int .i64 n.2.2.2]) false).run Tryd.prog w = .ok (.bool true) w := by
  have := h.out.map.tab.look mkQ_inj carLaw Tryd.underlying69 (Tryd.zeroValue4 w) n (car_key n wf)
  rw [show setOf l n = some true from if_pos hm] at this
  exact this
theorem look_out (h : Aside0 (InT A rows b w0 gt tv u ms v l w)) {n : Q4} (wf : wfQ n) (hm : ¬ n ∈ l.map keyT) : (Instr.lookup 69 (.map (some b)) (.agg #[.int .i64 n.1, .int .i64 n.2.1, .int .i64 n.2.2.1, .int .i64 n.2.2.2]) false).run Tryd.prog w = .ok (.bool false) w := by
  have := h.out.map.tab.look mkQ_inj carLaw Tryd.underlying69 (Tryd.zeroValue4 w) n (car_key n wf)
  rw [show setOf l n = none from if_neg hm] at this
  exact this
theorem fresh_ne (h : Aside0 (InT A rows b w0 gt tv u ms v l w)) {w9 w10 w11 : World} (h9 : Below w.heap.size w w9) (h10 : Below w9.heap.size w9 w10) {row : Option Nat} (h11 : w10.grownBy w11 row) {k : Nat} (hk : w11.heap.size ≤ k) : k ≠ gt := by
  have h1 := (Array.getElem?_eq_some_iff.1 h.out.trip).1
  have := h9.size
  have := h10.size
  have := h11.size
  omega
end
def tour1T : Bool × List (List Nat × List Nat) := (true, [([], []), ([0], [0]), ([1], [1]), ([], []), ([], []), ([3, 4], [3, 4]), ([3, 4, 5], [3]), ([2, 0, 1, 2], [2]), ([6, 7, 0, 1, 2, 3, 4, 5, 6, 7], [6])])
def tour1B : List Nat := [0, 1, 3, 0, 0, 24, 56, 7, 255]
theorem tour1_tab : rtab .any (opsOf Tryd.f23 1) = tour1T := by kernel_rfl
theorem tour1_bits : waitsOk tour1T.2 tour1B = true := by kernel_rfl
set_option linter.unusedSimpArgs false
set_option maxRecDepth 100000
set_option maxHeartbeats 40000000 in
theorem tour_calls (g : Nat) (lb : Array Value) (eg : ∀ args w, (callFunc g args).run Tryd.prog w = .ok (.enter g args) w) (acc : Q4 → Option Bool) (k d : Nat) (A : Option Addr) (c : Nat) (rows : List ByteArray) (c0 c1 c2 c3 most : Int) (r1 : List Trip) (r2 : Int) (w : World)
    (hacc : ∀ q r W, acc q = some r → Below w.heap.size w W → Calls Tryd.prog g (#[mkQ q] ++ lb) W fun e w' => e = .returned (.bool r) ∧ Below W.heap.size W w')
    (hr : Kd.C Kd.string w A rows.length rows) (hc : rows.length ≤ c) (wf : wfQ (c0, c1, c2, c3)) (h : tourF acc k rows most d [trip0 c0 c1 c2 c3] 0 = some (r1, r2)) :
    Calls Tryd.prog 23 #[.slice A rows.length c, .agg #[.int .i64 c0, .int .i64 c1, .int .i64 c2, .int .i64 c3], .int .i64 most, .func (.func g) #[] lb] w fun e w' => ∃ v : Value, e = .returned (.tuple #[v, .int .i64 r2]) ∧ Kd.R k54 54 w' w.heap.size (fun _ => True) v r1 ∧ Below w.heap.size w w' := by
  have H := Aside0.mk h
  have HACC := Aside0.mk hacc
  generalize hw1 : w.alloc (.cells #[.int .i64 c0, .int .i64 c1, .int .i64 c2, .int .i64 c3] 28) = w1
  have HB1 : Aside0 (BoxT A c rows c0 c1 c2 c3 w w1) := ⟨by
    rw [← hw1]
    have hb : Below w.heap.size w (w.alloc (.cells #[.int .i64 c0, .int .i64 c1, .int .i64 c2, .int .i64 c3] 28)) := (Below.refl _ _).alloc (Nat.le_refl _) _
    exact ⟨Kd.C_below hr hb, (MapKept.heap_alloc w _).1, hb, by simp⟩⟩
  have hu := Tryd.underlying28
  have hut := Tryd.underlying54
  have hmm := @run_makeMap Tryd.prog
  clear h hacc
  go_enter Tryd.func23, Tryd.ntmps23
  go_wp2_with fail
  refine start_ (n := 9) (S := (fun w' => w'.cell? ⟨w.heap.size, 0, none⟩ = some (.int .i64 c0) ∧ w'.cell? ⟨w.heap.size, 1, none⟩ = some (.int .i64 c1) ∧ w'.cell? ⟨w.heap.size, 2, none⟩ = some (.int .i64 c2) ∧ w'.cell? ⟨w.heap.size, 3, none⟩ = some (.int .i64 c3) ∧ Aside0 (BoxT A c rows c0 c1 c2 c3 w w'))) (ds := []) #[false, false, false, false, false, false, false, false, false] (by kernel_rfl) rfl rfl (BoxT.cells (BoxT.step HB1 (below_drew (Below.refl _ _)))) (fun hHeld => ?_); refine with_tabW tour1_tab tour1_bits (fun HT_ HW_ => ?_)
  have HB2 := BoxT.step HB1 (below_drew (Below.refl w1.heap.size w1))
  generalize w1.drew = w2 at HB2 hHeld ⊢
  clear HB1
  refine take_ (i := 0) (N := some 17) (v := ?_) (a' := ?_) #[true, false, false, false, false, false, false, false, false] rfl rfl (take_ofW HT_.out HW_.out (by kernel_rfl)) (fun _ _ _ h => h) (Or.inl ⟨by rfl, ?_⟩) hHeld ?_ ?_
  rotate_left
  · rintro w' ⟨s0, s1, s2, s3, _⟩
    go_simp
    with_reducible rfl
  rotate_left
  · simp only [Act.put, List.setIfInBounds_toArray, List.set_cons_zero, List.set_cons_succ, i64_w, i32_w]
    rfl
  refine pure_ (i := 1) (N := some 18) (v := ?_) (a' := ?_) #[true, true, false, false, false, false, false, false, false] rfl rfl (any_of HT_.out (by kernel_rfl)) (fun _ _ _ h => h) (Or.inl ⟨by rfl, ?_⟩) ?_ ?_
  rotate_left
  · intro w'
    go_simp
    with_reducible rfl
  rotate_left
  · simp only [Act.put, List.setIfInBounds_toArray, List.set_cons_zero, List.set_cons_succ, i64_w, i32_w]
    rfl
  refine take_ (i := 4) (N := some 21) (v := ?_) (a' := ?_) #[true, true, false, false, true, false, false, false, false] rfl rfl (take_ofW HT_.out HW_.out (by kernel_rfl)) (fun _ _ _ h => h) (Or.inl ⟨by rfl, ?_⟩) hHeld ?_ ?_
  rotate_left
  · rintro w' ⟨s0, s1, s2, s3, _⟩
    go_simp
    with_reducible rfl
  rotate_left
  · simp only [Act.put, List.setIfInBounds_toArray, List.set_cons_zero, List.set_cons_succ, i64_w, i32_w]
    rfl
  refine join_ (σ := Value × Nat) 1 #[true, true, true, true, true, true, true, true, false] (fun s => [(19, s.1), (20, .map (some s.2)), (10, s.1), (22, .map (some s.2))]) (fun s w' => FirstT A c rows c0 c1 c2 c3 w s.1 s.2 w') ?hcont (fun hcont => ?h)
  case h =>
    refine two_ (i := 2) (j := 3) (Ni := some 19) (Nj := some 20) #[true, true, true, false, true, false, false, false, false] #[true, true, false, true, true, false, false, false, false] rfl rfl rfl rfl (by kernel_rfl) (by decide) (by decide) (fun K hK => ?_) (fun K hK => ?_)
    · refine Kd.R_lit_step k54 (w0 := w2) w2.heap.size 54 ?hg (N := 19) ?hd (xs := [trip0 c0 c1 c2 c3]) (inner := [.int .i64 c0, .int .i64 c1, .int .i64 c2, .int .i64 c3, .int .i64 (-1), .int .i64 0, .int .i64 0]) (ok := fun _ => True) (okp := fun _ => True) ?hr ?hp (fun _ hk => hk) trivial (Below.refl _ _) (Nat.le_refl _) (by simp) ?_; (case hd => rfl); (case hg => rfl); (case hr => first | (go_simp; done) | (go_simp; rfl)); (case hp => exact reps_trip c0 c1 c2 c3)
      intro v w3 ho3 hb3 _ _
      have HB3 := BoxT.step HB2 hb3
      have HO3 := Aside0.mk (Kd.R_lower ho3 HB2.out.below.size)
      refine hK.out _ _ (BoxT.cells HB3) (fun hHeld => ?_)
      clear hK K
      refine norm_ (a' := ?_) ?_ ?_
      rotate_left
      · show Act.put _ (some 19) _ = _
        simp only [Act.put, List.setIfInBounds_toArray, List.set_cons_zero, List.set_cons_succ]
        rfl
      refine pure_ (i := 7) (N := some 10) (v := ?_) (a' := ?_) #[true, true, true, false, true, false, false, true, false] rfl rfl (any_of HT_.out (by kernel_rfl)) (fun _ _ _ h => h) (Or.inl ⟨by rfl, ?_⟩) ?_ ?_
      rotate_left
      · intro w'
        go_simp
        with_reducible rfl
      rotate_left
      · simp only [Act.put, List.setIfInBounds_toArray, List.set_cons_zero, List.set_cons_succ]
        rfl
      refine one_ (i := 3) (N := some 20) #[true, true, true, true, true, false, false, true, false] rfl rfl (by kernel_rfl) (by decide) (fun K hK => ?_)
      obtain ⟨b, w4, hrun4, HM4, hb4⟩ := made_map HB3
      refine value_ (v := .map (some b)) (w1 := w4) (by rfl) rfl (by go_simp) ?_
      have HB4 := BoxT.step HB3 hb4
      have HO4 := Aside0.mk (Kd.R_below HO3.out hb4)
      refine hK.out _ _ (BoxT.cells HB4) (fun hHeld => ?_)
      clear hK K
      refine norm_ (a' := ?_) ?_ ?_
      rotate_left
      · show Act.put _ (some 20) _ = _
        simp only [Act.put, List.setIfInBounds_toArray, List.set_cons_zero, List.set_cons_succ]
        rfl
      refine one_ (i := 5) (N := none) #[true, true, true, true, true, true, false, true, false] rfl rfl (by kernel_rfl) (by decide) (fun K hK => ?_)
      obtain ⟨w5, hrun5, HN5, hg5⟩ := put_car wf HM4
      refine skip_ (w1 := w5) (by rfl) rfl (by go_simp) ?_
      have HB5 := BoxT.turned HB4 hr HM4 hg5
      have HO5 := Aside0.mk (own_beside HO4.out HM4.out.tab hg5)
      refine hK.out _ _ (BoxT.cells HB5) (fun hHeld => ?_)
      clear hK K
      refine pure_ (i := 6) (N := some 22) (v := ?_) (a' := ?_) #[true, true, true, true, true, true, true, true, false] rfl rfl (any_of HT_.out (by kernel_rfl)) (fun _ _ _ h => h) (Or.inl ⟨by rfl, ?_⟩) ?_ ?_
      rotate_left
      · intro w'
        go_simp
        with_reducible rfl
      rotate_left
      · simp only [Act.put, List.setIfInBounds_toArray, List.set_cons_zero, List.set_cons_succ]
        rfl
      refine norm_ ?_ (hcont (v, b) w5 ⟨HB5.out, HO5.out, HN5.out⟩)
      simp only [putAll, Act.put, List.setIfInBounds_toArray, List.set_cons_zero, List.set_cons_succ]
    · obtain ⟨b, w3, hrun3, HM3, hb3⟩ := made_map HB2
      refine value_ (v := .map (some b)) (w1 := w3) (by rfl) rfl (by go_simp) ?_
      have HB3 := BoxT.step HB2 hb3
      refine hK.out _ _ (BoxT.cells HB3) (fun hHeld => ?_)
      clear hK K
      refine norm_ (a' := ?_) ?_ ?_
      rotate_left
      · show Act.put _ (some 20) _ = _
        simp only [Act.put, List.setIfInBounds_toArray, List.set_cons_zero, List.set_cons_succ]
        rfl
      refine two_ (i := 2) (j := 5) (Ni := some 19) (Nj := none) #[true, true, true, true, true, false, false, false, false] #[true, true, false, true, true, true, false, false, false] rfl rfl rfl rfl (by kernel_rfl) (by decide) (by decide) (fun K hK => ?_) (fun K hK => ?_)
      · refine Kd.R_lit_step k54 (w0 := w3) w3.heap.size 54 ?hg (N := 19) ?hd (xs := [trip0 c0 c1 c2 c3]) (inner := [.int .i64 c0, .int .i64 c1, .int .i64 c2, .int .i64 c3, .int .i64 (-1), .int .i64 0, .int .i64 0]) (ok := fun _ => True) (okp := fun _ => True) ?hr ?hp (fun _ hk => hk) trivial (Below.refl _ _) (Nat.le_refl _) (by simp) ?_; (case hd => rfl); (case hg => rfl); (case hr => first | (go_simp; done) | (go_simp; rfl)); (case hp => exact reps_trip c0 c1 c2 c3)
        intro v w4 ho4 hb4 _ _
        have HB4 := BoxT.step HB3 hb4
        have HO4 := Aside0.mk (Kd.R_lower ho4 HB3.out.below.size)
        have HM4 := MapT.step HM3 hb4
        refine hK.out _ _ (BoxT.cells HB4) (fun hHeld => ?_)
        clear hK K
        refine norm_ (a' := ?_) ?_ ?_
        rotate_left
        · show Act.put _ (some 19) _ = _
          simp only [Act.put, List.setIfInBounds_toArray, List.set_cons_zero, List.set_cons_succ]
          rfl
        refine pure_ (i := 7) (N := some 10) (v := ?_) (a' := ?_) #[true, true, true, true, true, false, false, true, false] rfl rfl (any_of HT_.out (by kernel_rfl)) (fun _ _ _ h => h) (Or.inl ⟨by rfl, ?_⟩) ?_ ?_
        rotate_left
        · intro w'
          go_simp
          with_reducible rfl
        rotate_left
        · simp only [Act.put, List.setIfInBounds_toArray, List.set_cons_zero, List.set_cons_succ]
          rfl
        refine one_ (i := 5) (N := none) #[true, true, true, true, true, true, false, true, false] rfl rfl (by kernel_rfl) (by decide) (fun K hK => ?_)
        obtain ⟨w5, hrun5, HN5, hg5⟩ := put_car wf HM4
        refine skip_ (w1 := w5) (by rfl) rfl (by go_simp) ?_
        have HB5 := BoxT.turned HB4 hr HM4 hg5
        have HO5 := Aside0.mk (own_beside HO4.out HM4.out.tab hg5)
        refine hK.out _ _ (BoxT.cells HB5) (fun hHeld => ?_)
        clear hK K
        refine pure_ (i := 6) (N := some 22) (v := ?_) (a' := ?_) #[true, true, true, true, true, true, true, true, false] rfl rfl (any_of HT_.out (by kernel_rfl)) (fun _ _ _ h => h) (Or.inl ⟨by rfl, ?_⟩) ?_ ?_
        rotate_left
        · intro w'
          go_simp
          with_reducible rfl
        rotate_left
        · simp only [Act.put, List.setIfInBounds_toArray, List.set_cons_zero, List.set_cons_succ]
          rfl
        refine norm_ ?_ (hcont (v, b) w5 ⟨HB5.out, HO5.out, HN5.out⟩)
        simp only [putAll, Act.put, List.setIfInBounds_toArray, List.set_cons_zero, List.set_cons_succ]
      · obtain ⟨w4, hrun4, HN4, hg4⟩ := put_car wf HM3
        refine skip_ (w1 := w4) (by rfl) rfl (by go_simp) ?_
        have HB4 := BoxT.turned HB3 hr HM3 hg4
        refine hK.out _ _ (BoxT.cells HB4) (fun hHeld => ?_)
        clear hK K
        refine pure_ (i := 6) (N := some 22) (v := ?_) (a' := ?_) #[true, true, false, true, true, true, true, false, false] rfl rfl (any_of HT_.out (by kernel_rfl)) (fun _ _ _ h => h) (Or.inl ⟨by rfl, ?_⟩) ?_ ?_
        rotate_left
        · intro w'
          go_simp
          with_reducible rfl
        rotate_left
        · simp only [Act.put, List.setIfInBounds_toArray, List.set_cons_zero, List.set_cons_succ]
          rfl
        refine one_ (i := 2) (N := some 19) #[true, true, true, true, true, true, true, false, false] rfl rfl (by kernel_rfl) (by decide) (fun K hK => ?_)
        refine Kd.R_lit_step k54 (w0 := w4) w4.heap.size 54 ?hg (N := 19) ?hd (xs := [trip0 c0 c1 c2 c3]) (inner := [.int .i64 c0, .int .i64 c1, .int .i64 c2, .int .i64 c3, .int .i64 (-1), .int .i64 0, .int .i64 0]) (ok := fun _ => True) (okp := fun _ => True) ?hr ?hp (fun _ hk => hk) trivial (Below.refl _ _) (Nat.le_refl _) (by simp) ?_; (case hd => rfl); (case hg => rfl); (case hr => first | (go_simp; done) | (go_simp; rfl)); (case hp => exact reps_trip c0 c1 c2 c3)
        intro v w5 ho5 hb5 _ _
        have HB5 := BoxT.step HB4 hb5
        have HO5 := Aside0.mk (Kd.R_lower ho5 HB4.out.below.size)
        have HN5 := MapT.step HN4 hb5
        refine hK.out _ _ (BoxT.cells HB5) (fun hHeld => ?_)
        clear hK K
        refine norm_ (a' := ?_) ?_ ?_
        rotate_left
        · show Act.put _ (some 19) _ = _
          simp only [Act.put, List.setIfInBounds_toArray, List.set_cons_zero, List.set_cons_succ]
          rfl
        refine pure_ (i := 7) (N := some 10) (v := ?_) (a' := ?_) #[true, true, true, true, true, true, true, true, false] rfl rfl (any_of HT_.out (by kernel_rfl)) (fun _ _ _ h => h) (Or.inl ⟨by rfl, ?_⟩) ?_ ?_
        rotate_left
        · intro w'
          go_simp
          with_reducible rfl
        rotate_left
        · simp only [Act.put, List.setIfInBounds_toArray, List.set_cons_zero, List.set_cons_succ]
          rfl
        refine norm_ ?_ (hcont (v, b) w5 ⟨HB5.out, HO5.out, HN5.out⟩)
        simp only [putAll, Act.put, List.setIfInBounds_toArray, List.set_cons_zero, List.set_cons_succ]
  case hcont =>
    rintro ⟨v, b⟩ w6 HF6
    have HF := Aside0.mk HF6
    clear HF6 HB2 hHeld
    refine norm_ (a' := ?_) ?_ ?_
    rotate_left
    · simp only [putAll, Act.put, List.setIfInBounds_toArray, List.set_cons_zero, List.set_cons_succ]
      rfl
    refine pure_ (i := 8) (N := some 11) (v := ?_) (a' := ?_) #[true, true, true, true, true, true, true, true, true] rfl rfl (any_of HT_.out (by kernel_rfl)) (fun _ _ _ h => h) (Or.inl ⟨by rfl, ?_⟩) ?_ ?_
    rotate_left
    · intro w'
      go_simp
      with_reducible rfl
    rotate_left
    · simp only [Act.put, List.setIfInBounds_toArray, List.set_cons_zero, List.set_cons_succ, i64_w, i32_w]
      rfl
    refine done_ (done_of HT_.out (by kernel_rfl)) ?_

    go_wp2_with fail
    go_loopg [10, 12] d (fun gk v10 v12 wr => ∃ (l : List Trip) (i : Int), v12 = .int .i64 i ∧ Aside0 (tourF acc k rows most gk l i = some (r1, r2)) ∧ Aside0 (LoopT A rows b w v10 l wr))
    case atStart => exact ⟨[trip0 c0 c1 c2 c3], 0, rfl, H, ⟨HF.out.box.reads, HF.out.own, HF.out.map, HF.out.box.below⟩⟩
    case round =>
      clear H HF
      obtain ⟨l, i, rfl, HA, HL⟩ := hrel
      cases gk with
      | zero => exact absurd HA.out (by simp [tourF])
      | succ d1 =>
        have hA := HA.out
        clear HA
        simp only [tourF] at hA
        obtain ⟨A10, x10, e10⟩ := Kd.R_slice HL.out.own
        subst e10
        by_cases c1 : i < (l.length : Int)
        · rw [if_pos c1] at hA
          by_cases c2 : 0 ≤ i
          · rw [if_pos c2] at hA
            obtain ⟨b1, hb1, hA⟩ := Option.bind_eq_some_iff.1 hA
            obtain ⟨ad, ead, x0, x1, x2, x3, x4, x5, x6⟩ := at_T54 (Kd.R_reads' HL.out.own).2.2 i c2 c1
            cases ead
            generalize htv : rd_T54 l i = tv at x0 x1 x2 x3 x4 x5 x6
            have htv2 : tripAt l i = tv := htv
            rw [htv2] at hA hb1
            obtain ⟨hbt, hnt⟩ := new_tripT (w := wr) (tv := tv) rfl
            obtain ⟨y0, y1, y2, y3, y4, y5, y6⟩ := trip_cells hnt
            have HL2 := LoopT.step HL hbt
            have hcall : Calls Tryd.prog g (#[.agg #[.int .i64 tv.f0.f0, .int .i64 tv.f0.f1, .int .i64 tv.f0.f2, .int .i64 tv.f0.f3]] ++ lb) _ _ := HACC.out (keyT tv) b1 _ hb1 HL2.out.below
            cases b1 with
            | true =>
              rw [if_pos rfl] at hA
              simp only [Option.some.injEq, Prod.mk.injEq] at hA
              obtain ⟨rfl, rfl⟩ := hA
              go_wp2_with (go_at_fn g; refine hcall.mono ?_; rintro e w7 ⟨rfl, hb7⟩; have HL7 := LoopT.step HL2 hb7)
              go_ret2
              exact ⟨_, rfl, HL7.out.own, HL7.out.below⟩
            | false =>
              rw [if_neg (by simp)] at hA
              by_cases cf : tv.f3 = most
              · rw [if_pos cf] at hA
                subst cf
                have HA2 := Aside0.mk hA
                clear hA
                go_wp2_with (go_at_fn g; refine hcall.mono ?_; rintro e w7 ⟨rfl, hb7⟩; have HL7 := LoopT.step HL2 hb7; obtain ⟨z0, z1, z2, z3, z4, z5, z6⟩ := trip_cells (blk_below hnt hb7))
                go_roundg d1
                case measure => omega
                case rel => exact ⟨l, wrap64 (i + 1), rfl, HA2, HL7⟩
              · rw [if_neg cf] at hA
                have cfb : (tv.f3 == most) = false := by simpa using cf
                obtain ⟨ms, hms, hA⟩ := Option.bind_eq_some_iff.1 hA
                obtain ⟨l2, hadd, hA⟩ := Option.bind_eq_some_iff.1 hA
                have HA2 := Aside0.mk hA
                have HMS := Aside0.mk hms
                have HADD := Aside0.mk hadd
                obtain ⟨gt, hgt⟩ : ∃ gt, gt = wr.heap.size := ⟨_, rfl⟩
                have HO0 := Aside0.mk (Kd.R_below (Kd.R_mono (ok' := fun kk => kk ≠ wr.heap.size) (Kd.R_bound HL.out.own) (fun kk hk => by have := hk.2.2.1; omega)) hbt)
                clear hA hms hadd
                go_wp2_with (first
                  | (go_at_fn g; refine hcall.mono ?_; rintro e w7 ⟨rfl, hb7⟩; have HL7 := LoopT.step HL2 hb7; have hnt7 := blk_below hnt hb7; have HO7 := Aside0.mk (Kd.R_below HO0.out hb7); obtain ⟨z0, z1, z2, z3, z4, z5, z6⟩ := trip_cells hnt7)
                  | (go_at_call 35; refine (impl_openMoves.calls k A c rows tv.f0.f0 tv.f0.f1 tv.f0.f2 tv.f0.f3 ms _ HL7.out.reads hc HMS.out).mono ?_; rintro e w8 ⟨v8, rfl, ho8, hb8⟩; obtain ⟨A8, x8, rfl⟩ := Kd.R_slice ho8; have HI8 : Aside0 (InT A rows b w wr.heap.size tv (.slice A8 ms.length x8) ms (.slice (some ad) l.length x10) l w8) := ⟨Kd.R_below HO7.out hb8, ⟨(LoopT.step HL7 hb8).out.map.tab, HL.out.map.ge⟩, (LoopT.step HL7 hb8).out.below, blk_below hnt7 hb8, Kd.R_lower ho8 HL7.out.below.size⟩))
                go_loopg [10, 48] ms.length (fun gg v10 v48 wr2 => ∃ (j : Nat) (l' : List Trip), v48 = .int .i64 j ∧ j ≤ ms.length ∧ ms.length - j ≤ gg ∧ Aside0 (addF i tv.f3 (keyT tv) (ms.drop j) l' = some l2) ∧ Aside0 (InT A rows b w wr.heap.size tv (.slice A8 ms.length x8) ms v10 l' wr2))
                case atStart => exact ⟨0, l, rfl, by omega, by omega, by simpa using HADD, HI8⟩
                case round =>
                  clear HADD HI8 HO7 HO0 HL7 HL2 hcall
                  obtain ⟨j, l', rfl, hj, hgj, HAD, HI⟩ := hrel
                  obtain ⟨A11, x11, e11⟩ := Kd.R_slice HI.out.own
                  subst e11
                  by_cases hlt : j < ms.length
                  · have hltz : (j : Int) < (ms.length : Int) := by omega
                    have hd := HAD.out
                    clear HAD
                    rw [List.drop_eq_getElem_cons hlt] at hd
                    simp only [addF] at hd
                    obtain ⟨n, hn, hd⟩ := Option.bind_eq_some_iff.1 hd
                    have wfn := driven_wf hn
                    have hCm := (Kd.R_reads' HI.out.moves).2.2
                    have hml : ms.length ≤ 9223372036854775807 := hCm.2.1
                    obtain ⟨ad8, e8, hx8⟩ := Kd.at_int hCm j (by omega) hltz
                    have hy8 : rd ms (j : Int) = ms[j] := by simp [rd, List.getD_eq_getElem?_getD, hlt]
                    rw [hy8, Int.toNat_natCast] at hx8
                    generalize ms[j] = m at hx8 hn hd
                    cases e8
                    have HN := Aside0.mk hn
                    obtain ⟨z0, z1, z2, z3, z4, z5, z6⟩ := InT.cells HI
                    clear hn hCm
                    by_cases hmem : n ∈ l'.map keyT
                    · rw [if_pos hmem] at hd
                      have HAD2 := Aside0.mk hd
                      clear hd
                      go_wp2_with (go_at_call 36; refine (impl_Car_driven.calls tv.f0.f0 tv.f0.f1 tv.f0.f2 tv.f0.f3 m n.1 n.2.1 n.2.2.1 n.2.2.2 _ HN.out).mono ?_; rintro e w9 ⟨rfl, hb9⟩; have HI9 := InT.step HI hb9; obtain ⟨hbn, hnn⟩ := new_carT (w := w9) (n := n) rfl; have HI10 := InT.step HI9 hbn; obtain ⟨p0, p1, p2, p3⟩ := car_cells hnn; have hlook := look_in HI10 wfn hmem)
                      go_roundg (ms.length - (j + 1))
                      case measure => omega
                      case rel => exact ⟨j + 1, l', by go_num, by omega, by omega, HAD2, HI10⟩
                    · rw [if_neg hmem] at hd
                      by_cases hsz : l'.length < 1000000
                      · rw [if_pos hsz] at hd
                        have HAD2 := Aside0.mk hd
                        clear hd
                        go_wp2_with (first
                          | (go_at_call 36; refine (impl_Car_driven.calls tv.f0.f0 tv.f0.f1 tv.f0.f2 tv.f0.f3 m n.1 n.2.1 n.2.2.1 n.2.2.2 _ HN.out).mono ?_; rintro e w9 ⟨rfl, hb9⟩; have HI9 := InT.step HI hb9; obtain ⟨hbn, hnn⟩ := new_carT (w := w9) (n := n) rfl; have HI10 := InT.step HI9 hbn; obtain ⟨p0, p1, p2, p3⟩ := car_cells hnn; have hlook := look_out HI10 wfn hmem)
                          | (at_mapUpdate; refine wpList_mapUpdate_tab _ rfl _ _ _ 69 rfl 4 carLaw Tryd.underlying69 mkQ_inj (l'.map keyT) (by rw [List.length_map]; unfold maxLen; omega) (fun a _ ha => setOf_mem ha) rfl HI10.out.map.tab n true rfl rfl (car_key n wfn) ?_; intro w11 hm11 hg11; obtain ⟨o11, b11, t11, m11⟩ := InT.turned (f := setOf l') HI10 hg11; have hnn11 := blk_grown hnn hg11 (HI10.out.map.tab.ne hnn); obtain ⟨s0, s1, s2, s3⟩ := car_cells hnn11; obtain ⟨k0, k1, k2, k3, k4, k5, k6⟩ := trip_cells t11)
                          | (at_builtin; refine Kd.R_append k54 (w0 := w) w.heap.size rfl (.tmp 62) (.tmp 70) 43 54 (.agg #[.int .i64 0, .int .i64 0, .int .i64 0, .int .i64 0, .int .i64 0, .int .i64 0, .int .i64 0]) 56 rfl Tryd.underlying43 infoTrip rfl (by decide) (by omega) (.slice A11 l'.length x11) l' (mkTrip n i m (wrap64 (tv.f3 + 1))) [.int .i64 n.1, .int .i64 n.2.1, .int .i64 n.2.2.1, .int .i64 n.2.2.2, .int .i64 i, .int .i64 m, .int .i64 (wrap64 (tv.f3 + 1))] (fun kk => kk ≠ gt) (fun _ => False) rfl rfl ?aP (fun _ hk => hk.elim) ?aF ?aO ?aB ?aS ?aL ?_; (case aP => exact k54_mkM _ _ _ (mkTrip n i m (wrap64 (tv.f3 + 1)))); (case aB => exact b11); (case aF => (intro kk hk; rw [hgt]; exact fresh_ne HI hb9 hbn hg11 hk)); (case aO => (rw [hgt]; exact o11)); (case aS => exact b11.size); (case aL => omega); intro v12 w12 ho12 hb12 hg12 _; rw [hgt] at ho12; have HI12 := InT.added (A := A) (rows := rows) (l1 := l' ++ [mkTrip n i m (wrap64 (tv.f3 + 1))]) o11 ⟨hm11, HI.out.map.ge⟩ t11 m11 ho12 hb12 hg12 (setOf_snoc l' n _ _ _)))
                        go_roundg (ms.length - (j + 1))
                        case measure => omega
                        case rel => exact ⟨j + 1, _, by go_num, by omega, by omega, HAD2, HI12⟩
                      · rw [if_neg hsz] at hd
                        cases hd
                  · have hltz : ¬ (j : Int) < (ms.length : Int) := by omega
                    have HE : Aside0 (l' = l2) := ⟨by
                      have hd := HAD.out
                      rw [List.drop_eq_nil_of_le (by omega)] at hd
                      simpa only [addF, Option.some.injEq] using hd⟩
                    clear HAD
                    go_wp2
                    go_roundg d1
                    case measure => omega
                    case rel => exact ⟨l2, wrap64 (i + 1), rfl, HA2, by rw [← HE.out]; exact InT.loop HI hr⟩
          · rw [if_neg c2] at hA
            cases hA
        · rw [if_neg c1] at hA
          simp only [Option.some.injEq, Prod.mk.injEq] at hA
          obtain ⟨rfl, rfl⟩ := hA
          go_wp2
          go_ret2
          exact ⟨_, rfl, HL.out.own, HL.out.below⟩
end Go.Proofs.YtjblefcdihmdbaaDoor.Q
