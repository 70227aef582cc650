/-
  The cars that are met from one on: the program's search comes to a plain one, of a track.
-/
import Derived.Test.YtjblefcdihmdbaaDoorMovesPure2
import Derived.Test.YtjblefcdihmdbaaDoorOutTour
namespace Go.Proofs.YtjblefcdihmdbaaDoor.B
open Go.RowKit Go.Proofs.YtjblefcdihmdbaaDoor.Q Go.Proofs.YtjblefcdihmdbaaDoorW.PrintWords Go.Proofs.YtjblefcdihmdbaaDoorW.PrintLast

/-- A car that stands on a free square with right speeds. -/
def Good (l : List ByteArray) (q : Q4) : Prop := sgn l q.1 q.2.1 ≠ 35 ∧ (-5 ≤ q.2.2.1 ∧ q.2.2.1 ≤ 5) ∧ (-5 ≤ q.2.2.2 ∧ q.2.2.2 ≤ 5)
theorem sgn_range {l : List ByteArray} {x y : Int} (h : sgn l x y ≠ 35) : (0 ≤ y ∧ y < l.length) ∧ (0 ≤ x ∧ x < n0 l) := by
  unfold sgn at h
  split at h
  · rename_i h2
    exact ⟨⟨h2.1, h2.2.1⟩, h2.2.2⟩
  · exact absurd rfl h
theorem Good.range {l : List ByteArray} (ht : isT l = true) {q : Q4} (h : Good l q) : (0 ≤ q.1 ∧ q.1 < 16) ∧ (0 ≤ q.2.1 ∧ q.2.1 < 16) ∧ (-5 ≤ q.2.2.1 ∧ q.2.2.1 ≤ 5) ∧ (-5 ≤ q.2.2.2 ∧ q.2.2.2 ≤ 5) := by
  obtain ⟨h1, h2⟩ := sgn_range h.1
  obtain ⟨_, p2, _, p4, _⟩ := isT_rows ht
  exact ⟨⟨h2.1, by omega⟩, ⟨h1.1, by omega⟩, h.2.1, h.2.2⟩
/-- The number of a car. -/
def numQ (q : Q4) : Int := ((q.2.1 * 16 + q.1) * 11 + q.2.2.1 + 5) * 11 + q.2.2.2 + 5
theorem numQ_range {q : Q4} (h : (0 ≤ q.1 ∧ q.1 < 16) ∧ (0 ≤ q.2.1 ∧ q.2.1 < 16) ∧ (-5 ≤ q.2.2.1 ∧ q.2.2.1 ≤ 5) ∧ (-5 ≤ q.2.2.2 ∧ q.2.2.2 ≤ 5)) : 0 ≤ numQ q ∧ numQ q < 30976 := by
  unfold numQ
  omega
theorem numQ_inj {p q : Q4} (hp : (0 ≤ p.1 ∧ p.1 < 16) ∧ (0 ≤ p.2.1 ∧ p.2.1 < 16) ∧ (-5 ≤ p.2.2.1 ∧ p.2.2.1 ≤ 5) ∧ (-5 ≤ p.2.2.2 ∧ p.2.2.2 ≤ 5)) (hq : (0 ≤ q.1 ∧ q.1 < 16) ∧ (0 ≤ q.2.1 ∧ q.2.1 < 16) ∧ (-5 ≤ q.2.2.1 ∧ q.2.2.1 ≤ 5) ∧ (-5 ≤ q.2.2.2 ∧ q.2.2.2 ≤ 5)) (h : numQ p = numQ q) : p = q := by
  obtain ⟨p0, p1, p2, p3⟩ := p
  obtain ⟨q0, q1, q2, q3⟩ := q
  simp only [numQ] at *
  have h3 : p3 = q3 := by omega
  have h2 : p2 = q2 := by omega
  have h0 : p0 = q0 := by omega
  have h1 : p1 = q1 := by omega
  subst h0 h1 h2 h3
  rfl
def nextQ (q : Q4) (m : Int) : Q4 := nextCar q.1 q.2.1 q.2.2.1 q.2.2.2 m
def openQ (l : List ByteArray) (q : Q4) (m : Int) : Bool := openB l q.1 q.2.1 q.2.2.1 q.2.2.2 m
theorem open_good {l : List ByteArray} {q : Q4} {m : Int} (h : openQ l q m = true) : Good l (nextQ q m) := by
  have := open_next h
  exact ⟨this.2.2, this.1, this.2.1⟩
/-- Behind moves of the trip i. -/
def addL (i far : Int) (q : Q4) : List Int → List Trip → List Trip
  | [], l => l
  | m :: ms, l => if nextQ q m ∈ l.map keyT then addL i far q ms l else addL i far q ms (l ++ [mkTrip (nextQ q m) i m (far + 1)])
theorem addL_grow (i far : Int) (q : Q4) (ms : List Int) : ∀ l, ∃ x, addL i far q ms l = l ++ x ∧ x.length ≤ ms.length ∧ ∀ t ∈ x, t.f1 = i ∧ t.f3 = far + 1 ∧ t.f2 ∈ ms ∧ keyT t = nextQ q t.f2 := by
  induction ms with
  | nil => intro l; exact ⟨[], by simp [addL], by simp, fun t h => by cases h⟩
  | cons m ms ih =>
    intro l
    simp only [addL]
    split
    · obtain ⟨x, h1, h2, h3⟩ := ih l
      exact ⟨x, h1, by simp; omega, fun t ht => ⟨(h3 t ht).1, (h3 t ht).2.1, by simp [(h3 t ht).2.2.1], (h3 t ht).2.2.2⟩⟩
    · obtain ⟨x, h1, h2, h3⟩ := ih (l ++ [mkTrip (nextQ q m) i m (far + 1)])
      refine ⟨mkTrip (nextQ q m) i m (far + 1) :: x, by rw [h1]; simp, by simp; omega, fun t ht => ?_⟩
      rcases List.mem_cons.1 ht with rfl | ht
      · exact ⟨rfl, rfl, by simp [mkTrip], rfl⟩
      · exact ⟨(h3 t ht).1, (h3 t ht).2.1, by simp [(h3 t ht).2.2.1], (h3 t ht).2.2.2⟩
/-- What holds of the cars that have been met. -/
structure Inv (l : List ByteArray) (ts : List Trip) : Prop where
  good : ∀ t ∈ ts, Good l (keyT t)
  nodup : (ts.map keyT).Nodup
  far : ∀ t ∈ ts, 0 ≤ t.f3 ∧ t.f3 ≤ ts.length
theorem Inv.len {l : List ByteArray} (ht : isT l = true) {ts : List Trip} (h : Inv l ts) : ts.length ≤ 30976 := by
  have := pigeonM 30976 (ts.map fun t => (numQ (keyT t)).toNat) (by
    have hn := h.nodup
    unfold List.Nodup at hn ⊢
    rw [List.pairwise_map] at hn ⊢
    refine hn.imp_of_mem ?_
    intro a c ha hc hne e
    have ga := (h.good a ha).range ht
    have gc := (h.good c hc).range ht
    have ra := numQ_range ga
    have rc := numQ_range gc
    exact hne (numQ_inj ga gc (by omega))) (fun y hy => by
    obtain ⟨t, htm, rfl⟩ := List.mem_map.1 hy
    have := numQ_range ((h.good t htm).range ht)
    omega)
  simpa using this
theorem Inv.snoc {l : List ByteArray} {ts : List Trip} (h : Inv l ts) {n : Q4} (hn : ¬ n ∈ ts.map keyT) (hg : Good l n) {x y z : Int} (hz : 0 ≤ z ∧ z ≤ ts.length + 1) : Inv l (ts ++ [mkTrip n x y z]) := by
  refine ⟨fun t ht => ?_, ?_, fun t ht => ?_⟩
  · rcases List.mem_append.1 ht with ht | ht
    · exact h.good t ht
    · obtain rfl : t = mkTrip n x y z := by simpa using ht
      exact hg
  · rw [List.map_append, List.nodup_append]
    refine ⟨h.nodup, by simp, fun a ha c hc => ?_⟩
    obtain rfl : c = n := by simpa [keyT_mk] using hc
    exact fun e => hn (e ▸ ha)
  · rw [List.length_append]
    rcases List.mem_append.1 ht with ht | ht
    · have := h.far t ht
      simp
      omega
    · obtain rfl : t = mkTrip n x y z := by simpa using ht
      simp [mkTrip]
      omega
theorem Inv.add {l : List ByteArray} (i far : Int) (q : Q4) (ms : List Int) : ∀ ts, Inv l ts → (∀ m ∈ ms, openQ l q m = true) → 0 ≤ far → far ≤ ts.length → Inv l (addL i far q ms ts) := by
  induction ms with
  | nil => intro ts h _ _ _; exact h
  | cons m ms ih =>
    intro ts h ho h0 h1
    simp only [addL]
    split
    · exact ih ts h (fun m' hm => ho m' (by simp [hm])) h0 h1
    · rename_i hn
      exact ih _ (h.snoc hn (open_good (ho m (by simp))) ⟨by omega, by omega⟩) (fun m' hm => ho m' (by simp [hm])) h0 (by simp; omega)
theorem addF_eq (i far : Int) (q : Q4) (hfar : 0 ≤ far ∧ far ≤ 1000000) (ms : List Int) : ∀ ts : List Trip, ts.length + ms.length ≤ 1000000 → addF i far q ms ts = some (addL i far q ms ts) := by
  induction ms with
  | nil => intro ts _; rfl
  | cons m ms ih =>
    intro ts hl
    simp only [List.length_cons] at hl
    simp only [addF, addL]
    have e : impl_Car_driven.f q.1 q.2.1 q.2.2.1 q.2.2.2 m = some (nextQ q m) := rfl
    rw [e, Option.bind_some, wrap_in (x := far + 1) (by omega) (by omega)]
    by_cases c : nextQ q m ∈ ts.map keyT
    · rw [if_pos c, if_pos c]
      exact ih ts (by omega)
    · rw [if_neg c, if_neg c, if_pos (by omega)]
      exact ih _ (by simp; omega)
/-- The open moves of a car. -/
def movesQ (l : List ByteArray) (q : Q4) : List Int := (seg 0 9).filter (openQ l q)
theorem movesQ_len (l : List ByteArray) (q : Q4) : (movesQ l q).length ≤ 9 := filter_length_le_seg _ _ _
theorem movesQ_open {l : List ByteArray} {q : Q4} {m : Int} (h : m ∈ movesQ l q) : openQ l q m = true := (List.mem_filter.1 h).2
/-- The plain search. -/
def bfs (l : List ByteArray) (acc : Q4 → Bool) (most : Int) : Nat → List Trip → Int → List Trip × Int
  | 0, ts, _ => (ts, -1)
  | d + 1, ts, i => if i < (ts.length : Int) then if acc (keyT (tripAt ts i)) = true then (ts, i) else if (tripAt ts i).f3 = most then bfs l acc most d ts (i + 1) else
      bfs l acc most d (addL i (tripAt ts i).f3 (keyT (tripAt ts i)) (movesQ l (keyT (tripAt ts i))) ts) (i + 1) else (ts, -1)
theorem tripAt_mem {ts : List Trip} {i : Int} (h0 : 0 ≤ i) (h1 : i < ts.length) : tripAt ts i ∈ ts := by
  unfold tripAt rd_T54
  have hlt : i.toNat < ts.length := by omega
  rw [List.getD_eq_getElem?_getD, List.getElem?_eq_getElem hlt]
  exact List.getElem_mem hlt
theorem tour_bfs {l : List ByteArray} (ht : isT l = true) (acc : Q4 → Bool) (accF : Nat → Q4 → Option Bool) (hacc : ∀ q, Good l q → Ev (fun k => accF k q) (acc q)) (most : Int) (d : Nat) : ∀ (ts : List Trip) (i : Int), Inv l ts → 0 ≤ i → 30977 ≤ i + d →
    ∃ K, ∀ k, K ≤ k → ∀ e, d < e → tourF (accF k) k l most e ts i = some (bfs l acc most d ts i) := by
  induction d with
  | zero =>
    intro ts i hI h0 hd
    have := hI.len ht
    refine ⟨0, fun k _ e he => ?_⟩
    obtain ⟨e, rfl⟩ : ∃ m, e = m + 1 := ⟨e - 1, by omega⟩
    simp only [tourF, bfs]
    rw [if_neg (by omega)]
  | succ d ih =>
    intro ts i hI h0 hd
    by_cases c : i < (ts.length : Int)
    · have hm := tripAt_mem h0 c
      have hg := hI.good _ hm
      have hf := hI.far _ hm
      have hl := hI.len ht
      obtain ⟨K1, k1⟩ := hacc _ hg
      have hI2 := Inv.add i (tripAt ts i).f3 (keyT (tripAt ts i)) (movesQ l (keyT (tripAt ts i))) ts hI (fun m hm => movesQ_open hm) hf.1 hf.2
      obtain ⟨K2, k2⟩ := moves_implQ ht (keyT (tripAt ts i)).1 (keyT (tripAt ts i)).2.1 (keyT (tripAt ts i)).2.2.1 (keyT (tripAt ts i)).2.2.2 hg.2.1 hg.2.2
      obtain ⟨K3, k3⟩ := ih ts (i + 1) hI (by omega) (by omega)
      obtain ⟨K4, k4⟩ := ih _ (i + 1) hI2 (by omega) (by omega)
      refine ⟨K1 + K2 + K3 + K4, fun k hk e he => ?_⟩
      obtain ⟨e, rfl⟩ : ∃ m, e = m + 1 := ⟨e - 1, by omega⟩
      have k1' : accF k (keyT (tripAt ts i)) = some (acc (keyT (tripAt ts i))) := k1 k (by omega)
      simp only [tourF, bfs]
      rw [if_pos c, if_pos c, if_pos h0, k1', Option.bind_some, wrap_in (x := i + 1) (by omega) (by omega)]
      by_cases ca : acc (keyT (tripAt ts i)) = true
      · rw [if_pos ca, if_pos ca]
      · rw [if_neg ca, if_neg ca]
        by_cases cf : (tripAt ts i).f3 = most
        · rw [if_pos cf, if_pos cf]
          exact k3 k (by omega) e (by omega)
        · have k2' : impl_openMoves.f k l (keyT (tripAt ts i)).1 (keyT (tripAt ts i)).2.1 (keyT (tripAt ts i)).2.2.1 (keyT (tripAt ts i)).2.2.2 = some _ := k2 k (by omega)
          rw [if_neg cf, if_neg cf, k2', Option.bind_some]
          have := movesQ_len l (keyT (tripAt ts i))
          rw [show (seg 0 9).filter (openB l (keyT (tripAt ts i)).1 (keyT (tripAt ts i)).2.1 (keyT (tripAt ts i)).2.2.1 (keyT (tripAt ts i)).2.2.2) = movesQ l (keyT (tripAt ts i)) from rfl, addF_eq _ _ _ ⟨hf.1, by omega⟩ _ _ (by omega), Option.bind_some]
          exact k4 k (by omega) e (by omega)
    · refine ⟨0, fun k _ e he => ?_⟩
      obtain ⟨e, rfl⟩ : ∃ m, e = m + 1 := ⟨e - 1, by omega⟩
      simp only [tourF, bfs]
      rw [if_neg c, if_neg c]
end Go.Proofs.YtjblefcdihmdbaaDoor.B
