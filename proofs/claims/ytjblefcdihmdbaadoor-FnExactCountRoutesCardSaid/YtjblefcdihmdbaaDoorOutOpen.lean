/-
  impl.isOpen, told as the printed functions are. The rows within memory's reach.
-/
import Derived.Test.YtjblefcdihmdbaaDoorQ1
import Derived.Test.YtjblefcdihmdbaaDoorHofRows
import Derived.Test.YtjblefcdihmdbaaDoorOutStr
namespace Go.Proofs.YtjblefcdihmdbaaDoor.Q
open Go.RowKit Go.Proofs.YtjblefcdihmdbaaDoorW.PrintWords Go.Proofs.YtjblefcdihmdbaaDoorW.PrintLast Go.Proofs.YtjblefcdihmdbaaDoorW.PrintMore

/-- Whether a crossed square is a wall. -/
def wallP (l : List ByteArray) (s : List Int) : Option Bool :=
  if 1 < s.length then (impl_sign.f l (rd s 0) (rd s 1)).bind fun c => some (c == 35) else none
def impl_isOpen.f (k : Nat) (l : List ByteArray) (c0 c1 c2 c3 m : Int) : Option Bool :=
  (impl_Car_driven.f c0 c1 c2 c3 m).bind fun n => (impl_isCar.f l n.1 n.2.1 n.2.2.1 n.2.2.2).bind fun ok =>
    if ok = true then (impl_Car_crossed.f k c0 c1 c2 c3 m).bind fun xs => (anyF (wallP l) xs).bind fun b => some (!b) else some false
theorem impl_isOpen.mono : ∀ a0 a1 a2 a3 a4 a5 k, LeO (impl_isOpen.f k a0 a1 a2 a3 a4 a5) (impl_isOpen.f (k + 1) a0 a1 a2 a3 a4 a5) := by
  intro a0 a1 a2 a3 a4 a5 k
  unfold impl_isOpen.f
  exact LeO.bind (LeO.refl _) (fun n => LeO.bind (LeO.refl _) (fun ok => LeO.ite (LeO.bind (impl_Car_crossed.mono _ _ _ _ _ _) (fun xs => LeO.refl _)) (LeO.refl _)))

/-- What lies ahead of a call of the predicate. -/
structure WallS (g : Nat) (A : Option Addr) (c : Nat) (l : List ByteArray) (bk o : Nat) (x : List Int) (w0 w : World) : Prop where
  rows : w.cell? ⟨g, 0, none⟩ = some (.slice A l.length c)
  x0 : w.cell? ⟨bk, o, none⟩ = some (.int .i64 (rd x 0))
  x1 : w.cell? ⟨bk, o + 1, none⟩ = some (.int .i64 (rd x 1))
  reads : Kd.C Kd.string w A l.length l
  below : Below w0.heap.size w0 w
section
variable {g : Nat} {A : Option Addr} {c : Nat} {l : List ByteArray} {bk o : Nat} {x : List Int} {w0 w w' : World}
theorem WallS.step (h : Aside0 (WallS g A c l bk o x w0 w)) (hb : Below w.heap.size w w') : Aside0 (WallS g A c l bk o x w0 w') := ⟨pw_cell_below hb h.out.rows, pw_cell_below hb h.out.x0, pw_cell_below hb h.out.x1, Kd.C_below h.out.reads hb, below_then h.out.below h.out.below.size hb⟩
theorem WallS.cells (h : Aside0 (WallS g A c l bk o x w0 w)) : w.cell? ⟨g, 0, none⟩ = some (.slice A l.length c) ∧ w.cell? ⟨bk, o, none⟩ = some (.int .i64 (rd x 0)) ∧ w.cell? ⟨bk, o + 1, none⟩ = some (.int .i64 (rd x 1)) ∧ Aside0 (WallS g A c l bk o x w0 w) := ⟨h.out.rows, h.out.x0, h.out.x1, h⟩
theorem WallS.C (h : Aside0 (WallS g A c l bk o x w0 w)) : Kd.C Kd.string w A l.length l := h.out.reads
end
set_option linter.unusedSimpArgs false
set_option maxRecDepth 100000
set_option maxHeartbeats 4000000 in
theorem wall_calls (g : Nat) (A : Option Addr) (c : Nat) (l : List ByteArray) (Ax : Option Addr) (cx : Nat) (x : List Int) (b : Bool) (W : World) (hg : W.cell? ⟨g, 0, none⟩ = some (.slice A l.length c)) (hr : Kd.C Kd.string W A l.length l) (hc : l.length ≤ c)
    (hx : Kd.C (Kd.int .i64) W Ax x.length x) (h : wallP l x = some b) :
    Calls Tryd.prog 75 (#[.slice Ax x.length cx] ++ #[.pointer (some ⟨g, 0, none⟩)]) W fun e w' => e = .returned (.bool b) ∧ Below W.heap.size W w' := by
  rw [show (#[Value.slice Ax x.length cx] ++ #[Value.pointer (some ⟨g, 0, none⟩)] : Array Value) = #[.slice Ax x.length cx, .pointer (some ⟨g, 0, none⟩)] from rfl]
  unfold wallP at h
  split at h
  rotate_left
  · cases h
  rename_i h1
  obtain ⟨s, hs, h⟩ := Option.bind_eq_some_iff.1 h
  obtain rfl := Option.some.inj h
  have HS := Aside0.mk hs
  obtain ⟨ad, e, hx0⟩ := Kd.at_int hx 0 (by omega) (by omega)
  cases e
  obtain ⟨ad2, e, hx1⟩ := Kd.at_int hx 1 (by omega) (by omega)
  cases e
  have hsp := (spot_of hx0).1
  obtain ⟨bk, o, q⟩ := ad
  have hq : q = none := hsp
  subst hq
  have hx0 : W.cell? ⟨bk, o, none⟩ = some (.int .i64 (rd x 0)) := hx0
  have hx1 : W.cell? ⟨bk, o + 1, none⟩ = some (.int .i64 (rd x 1)) := hx1
  clear hsp
  have h1z : (1 : Int) < (x.length : Int) := by omega
  have h0z : (0 : Int) < (x.length : Int) := by omega
  have h0n : 0 < x.length := by omega
  have HS0 : Aside0 (WallS g A c l bk o x W W) := ⟨hg, hx0, hx1, hr, Below.refl _ _⟩
  clear hs hr hx h
  go_enter Tryd.func75, Tryd.ntmps75
  go_wp2_with fail
  go_region_held3 (fun w' => w'.cell? ⟨g, 0, none⟩ = some (.slice A l.length c) ∧ w'.cell? ⟨bk, o, none⟩ = some (.int .i64 (rd x 0)) ∧ w'.cell? ⟨bk, o + 1, none⟩ = some (.int .i64 (rd x 1)) ∧ Aside0 (WallS g A c l bk o x W w'))
    (first
      | exact WallS.cells (WallS.step HS0 (below_drew (Below.refl _ _)))
      | go_keep
      | (go_split_ands; exact WallS.cells (WallS.step (by assumption) hb')))
    (first | (go_at_call 53; go_split_ands; refine (impl_sign.calls A c l _ _ s _ (WallS.C (by assumption)) hc HS.out).mono ?_; rintro e w' ⟨rfl, hd'⟩; have hb' := hd'.below))
  go_wp2
  go_ret
  rename_i hH
  exact ⟨rfl, hH.2.2.2.out.below⟩
/-- What lies behind each step of isOpen. -/
structure OpenS (A : Option Addr) (c : Nat) (l : List ByteArray) (c0 c1 c2 c3 : Int) (w0 w : World) : Prop where
  row : w.heap[w0.heap.size]? = some (.cells #[.slice A l.length c] 22 (0, 0))
  car : w.heap[w0.heap.size + 1]? = some (.cells #[.int .i64 c0, .int .i64 c1, .int .i64 c2, .int .i64 c3] 28 (0, 0))
  reads : Kd.C Kd.string w A l.length l
  below : Below w0.heap.size w0 w
section
variable {A : Option Addr} {c : Nat} {l : List ByteArray} {c0 c1 c2 c3 : Int} {w0 w w' : World}
theorem OpenS.step (h : Aside0 (OpenS A c l c0 c1 c2 c3 w0 w)) (hb : Below w.heap.size w w') : Aside0 (OpenS A c l c0 c1 c2 c3 w0 w') := ⟨blk_below h.out.row hb, blk_below h.out.car hb, Kd.C_below h.out.reads hb, below_then h.out.below h.out.below.size hb⟩
theorem OpenS.box (hr : Kd.C Kd.string w A l.length l) {w1 : World} (h : (w.alloc (.cells #[.slice A l.length c] 22)).alloc (.cells #[.int .i64 c0, .int .i64 c1, .int .i64 c2, .int .i64 c3] 28) = w1) : Aside0 (OpenS A c l c0 c1 c2 c3 w w1) := by
  subst h
  have hb : Below w.heap.size w ((w.alloc (.cells #[.slice A l.length c] 22)).alloc (.cells #[.int .i64 c0, .int .i64 c1, .int .i64 c2, .int .i64 c3] 28)) := ((Below.refl _ _).alloc (Nat.le_refl _) _).alloc (by simp <;> omega) _
  refine ⟨?_, ?_, Kd.C_below hr hb, hb⟩
  · rw [(MapKept.heap_alloc _ _).2 _ (by simp)]
    exact (MapKept.heap_alloc w _).1
  · simpa using (MapKept.heap_alloc (w.alloc _) _).1
theorem OpenS.cells (h : Aside0 (OpenS A c l c0 c1 c2 c3 w0 w)) : w.cell? ⟨w0.heap.size, 0, none⟩ = some (.slice A l.length c) ∧ w.cell? ⟨w0.heap.size + 1, 0, none⟩ = some (.int .i64 c0) ∧ w.cell? ⟨w0.heap.size + 1, 1, none⟩ = some (.int .i64 c1) ∧ w.cell? ⟨w0.heap.size + 1, 2, none⟩ = some (.int .i64 c2) ∧ w.cell? ⟨w0.heap.size + 1, 3, none⟩ = some (.int .i64 c3) :=
  ⟨blk_cell h.out.row 0, blk_cell h.out.car 0, blk_cell h.out.car 1, blk_cell h.out.car 2, blk_cell h.out.car 3⟩
theorem new_car {w w1 : World} {n0 n1 n2 n3 : Int} (h : w.alloc (.cells #[.int .i64 n0, .int .i64 n1, .int .i64 n2, .int .i64 n3] 28) = w1) : Below w.heap.size w w1 ∧ w1.cell? ⟨w.heap.size, 0, none⟩ = some (.int .i64 n0) ∧ w1.cell? ⟨w.heap.size, 1, none⟩ = some (.int .i64 n1) ∧ w1.cell? ⟨w.heap.size, 2, none⟩ = some (.int .i64 n2) ∧ w1.cell? ⟨w.heap.size, 3, none⟩ = some (.int .i64 n3) := by
  subst h
  have hn := (MapKept.heap_alloc w (.cells #[.int .i64 n0, .int .i64 n1, .int .i64 n2, .int .i64 n3] 28)).1
  exact ⟨(Below.refl _ _).alloc (Nat.le_refl _) _, blk_cell hn 0, blk_cell hn 1, blk_cell hn 2, blk_cell hn 3⟩
end
set_option maxHeartbeats 8000000 in
theorem open_no (A : Option Addr) (c : Nat) (l : List ByteArray) (c0 c1 c2 c3 m n0 n1 n2 n3 : Int) (w : World) (hr : Kd.C Kd.string w A l.length l) (hc : l.length ≤ c) (hd : impl_Car_driven.f c0 c1 c2 c3 m = some (n0, n1, n2, n3)) (hi : impl_isCar.f l n0 n1 n2 n3 = some false) :
    Calls Tryd.prog 56 #[.slice A l.length c, .agg #[.int .i64 c0, .int .i64 c1, .int .i64 c2, .int .i64 c3], .int .i64 m] w fun e w' => e = .returned (.bool false) ∧ Below w.heap.size w w' := by
  generalize hw1 : (w.alloc (.cells #[.slice A l.length c] 22)).alloc (.cells #[.int .i64 c0, .int .i64 c1, .int .i64 c2, .int .i64 c3] 28) = w1
  have HS1 := OpenS.box hr hw1
  obtain ⟨q0, q1, q2, q3, q4⟩ := OpenS.cells HS1
  have HD := Aside0.mk hd
  have HI := Aside0.mk hi
  have hu := Tryd.underlying28
  clear hd hi hr
  go_enter Tryd.func56, Tryd.ntmps56
  go_wp2_with (first
    | (go_at_call 36; refine (impl_Car_driven.calls c0 c1 c2 c3 m n0 n1 n2 n3 _ HD.out).mono ?_; rintro e w2 ⟨rfl, hb2⟩; have HS2 := OpenS.step HS1 hb2; obtain ⟨hbn, p0, p1, p2, p3⟩ := new_car (w := w2) (n0 := n0) (n1 := n1) (n2 := n2) (n3 := n3) rfl; have HS3 := OpenS.step HS2 hbn; obtain ⟨r0, r1, r2, r3, r4⟩ := OpenS.cells HS3)
    | (go_at_call 42; refine (impl_isCar.calls A c l n0 n1 n2 n3 false _ HS3.out.reads hc HI.out).mono ?_; rintro e w4 ⟨rfl, hb4⟩; have HS4 := OpenS.step HS3 hb4; obtain ⟨u0, u1, u2, u3, u4⟩ := OpenS.cells HS4))
  go_ret
  exact ⟨rfl, HS4.out.below⟩
set_option maxHeartbeats 8000000 in
theorem open_yes (k : Nat) (A : Option Addr) (c : Nat) (l : List ByteArray) (c0 c1 c2 c3 m n0 n1 n2 n3 : Int) (xs : List (List Int)) (b : Bool) (w : World) (hr : Kd.C Kd.string w A l.length l) (hc : l.length ≤ c) (hd : impl_Car_driven.f c0 c1 c2 c3 m = some (n0, n1, n2, n3)) (hi : impl_isCar.f l n0 n1 n2 n3 = some true)
    (hx : impl_Car_crossed.f k c0 c1 c2 c3 m = some xs) (hb : anyF (wallP l) xs = some b) :
    Calls Tryd.prog 56 #[.slice A l.length c, .agg #[.int .i64 c0, .int .i64 c1, .int .i64 c2, .int .i64 c3], .int .i64 m] w fun e w' => e = .returned (.bool (!b)) ∧ Below w.heap.size w w' := by
  generalize hw1 : (w.alloc (.cells #[.slice A l.length c] 22)).alloc (.cells #[.int .i64 c0, .int .i64 c1, .int .i64 c2, .int .i64 c3] 28) = w1
  have HS1 := OpenS.box hr hw1
  obtain ⟨q0, q1, q2, q3, q4⟩ := OpenS.cells HS1
  have HD := Aside0.mk hd
  have HI := Aside0.mk hi
  have HX := Aside0.mk hx
  have HPRED : ∀ (w5 : World) (Ax : Option Addr) (cx : Nat), Aside0 (OpenS A c l c0 c1 c2 c3 w w5) → Kd.C (Kd.slice 2 (Kd.int .i64)) w5 Ax xs.length xs → xs.length ≤ cx → Aside0 (Calls Tryd.prog 73 #[.slice Ax xs.length cx, .func (.func 75) #[] #[.pointer (some ⟨w.heap.size, 0, none⟩)]] w5 fun e w' => e = .returned (.bool b) ∧ Aside0 (OpenS A c l c0 c1 c2 c3 w w')) := fun w5 Ax cx HS hC hcx => by
    refine ⟨(containsFunc_rows 75 _ (enters_of Tryd.func75 (by kernel_rfl) rfl) (wallP l) Ax cx xs b w5 (fun A' c' x b' W hb' hW hCx hlen => ?_) hC hcx hC.2.1 hb).mono ?_⟩
    · have HW := OpenS.step HS hW
      exact wall_calls w.heap.size A c l A' c' x b' W (blk_cell HW.out.row 0) HW.out.reads hc hCx hb'
    · rintro e w' ⟨rfl, hb'⟩
      exact ⟨rfl, OpenS.step HS hb'⟩
  have hu := Tryd.underlying28
  clear hd hi hr hx hb
  go_enter Tryd.func56, Tryd.ntmps56
  go_wp2_with (first
    | (go_at_call 36; refine (impl_Car_driven.calls c0 c1 c2 c3 m n0 n1 n2 n3 _ HD.out).mono ?_; rintro e w2 ⟨rfl, hb2⟩; have HS2 := OpenS.step HS1 hb2; obtain ⟨hbn, p0, p1, p2, p3⟩ := new_car (w := w2) (n0 := n0) (n1 := n1) (n2 := n2) (n3 := n3) rfl; have HS3 := OpenS.step HS2 hbn; obtain ⟨r0, r1, r2, r3, r4⟩ := OpenS.cells HS3)
    | (go_at_call 42; refine (impl_isCar.calls A c l n0 n1 n2 n3 true _ HS3.out.reads hc HI.out).mono ?_; rintro e w4 ⟨rfl, hb4⟩; have HS4 := OpenS.step HS3 hb4; obtain ⟨u0, u1, u2, u3, u4⟩ := OpenS.cells HS4)
    | (go_at_call 74; refine (impl_Car_crossed.calls k c0 c1 c2 c3 m xs _ HX.out).mono ?_; rintro e w5 ⟨v5, rfl, hs5, hb5⟩; have HS5 := OpenS.step HS4 hb5; obtain ⟨A5, x5, rfl, hl5, hC5⟩ := Kd.S_reads hs5)
    | (go_at_call 73; refine (HPRED _ A5 x5 HS5 hC5 hl5).out.mono ?_; rintro e w6 ⟨rfl, HS6⟩))
  go_ret
  exact ⟨rfl, HS6.out.below⟩
theorem impl_isOpen.calls (k : Nat) (A0 : Option Addr) (c0 : Nat) (l0 : List ByteArray) (a1_0 a1_1 a1_2 a1_3 a2 : Int) (r : Bool) (w : World) (hr0 : Kd.C Kd.string w A0 l0.length l0) (hc0 : l0.length ≤ c0) (h : impl_isOpen.f k l0 a1_0 a1_1 a1_2 a1_3 a2 = some r) :
    Calls Tryd.prog 56 #[.slice A0 l0.length c0, .agg #[.int .i64 a1_0, .int .i64 a1_1, .int .i64 a1_2, .int .i64 a1_3], .int .i64 a2] w fun e w' => e = .returned (.bool r) ∧ Below w.heap.size w w' := by
  obtain ⟨⟨n0, n1, n2, n3⟩, hd, h⟩ := Option.bind_eq_some_iff.1 h
  obtain ⟨ok, hi, h⟩ := Option.bind_eq_some_iff.1 h
  cases ok with
  | true =>
    rw [if_pos rfl] at h
    obtain ⟨xs, hx, h⟩ := Option.bind_eq_some_iff.1 h
    obtain ⟨b, hb, h⟩ := Option.bind_eq_some_iff.1 h
    obtain rfl := Option.some.inj h
    exact open_yes k A0 c0 l0 a1_0 a1_1 a1_2 a1_3 a2 n0 n1 n2 n3 xs b w hr0 hc0 hd hi hx hb
  | false =>
    rw [if_neg (by simp)] at h
    obtain rfl := Option.some.inj h
    exact open_no A0 c0 l0 a1_0 a1_1 a1_2 a1_3 a2 n0 n1 n2 n3 w hr0 hc0 hd hi
end Go.Proofs.YtjblefcdihmdbaaDoor.Q
