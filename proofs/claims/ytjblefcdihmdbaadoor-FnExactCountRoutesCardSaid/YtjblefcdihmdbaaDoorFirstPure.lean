/-
  The first car: program and reference find the same square, of a track.
-/
import Derived.Test.YtjblefcdihmdbaaDoorTrackImpl
import Derived.Test.YtjblefcdihmdbaaDoorOutFirst
import Derived.Lib.IndexLaws
import Derived.Test.YtjblefcdihmdbaaDoorQ3
import Derived.Test.YtjblefcdihmdbaaDoorQ10
namespace Go.Proofs.YtjblefcdihmdbaaDoor.B
open Go.RowKit Go.Proofs.YtjblefcdihmdbaaDoor.Q Go.Proofs.YtjblefcdihmdbaaDoorW.PrintWords Go.Proofs.YtjblefcdihmdbaaDoorW.PrintLast

/-- Where the S is. -/
def posS : List ByteArray → Int → Option (Int × Int)
  | [], _ => none
  | r :: l, i => if (bl r).contains 83 = true then some (Lib.indexByte (bl r) 83, i) else posS l (i + 1)
theorem idx_cons_ne (b c : UInt8) (q : List UInt8) (h : ¬ b = c) (hq : q.contains c = true) : Lib.indexByte (b :: q) c = Lib.indexByte q c + 1 := by
  rw [Lib.contains_iff_indexByte] at hq
  have h0 := of_decide_eq_true hq
  simp only [Lib.indexByte]
  rw [if_neg (by simpa using h), if_neg (by simp; omega)]
theorem contains_cons_ne (b c : UInt8) (q : List UInt8) (h : ¬ b = c) : (b :: q).contains c = q.contains c := by
  simp only [List.contains_cons]
  rw [show (c == b) = false from by simpa using fun e => h e.symm]
  simp
theorem firstRow (l : List ByteArray) (i : Int) (row : ByteArray) (h0 : 0 ≤ i) (h1 : i < l.length) (hr : rdOf ByteArray.empty l i = row) (hi : i ≤ 1000) (hrow : row.size ≤ 1000) (q : List UInt8) : ∀ (p : List UInt8) (j : Int) (r : Int × Int × Int × Int), bl row = p ++ q → j = p.length →
    (if q.contains 83 = true then r = (j + Lib.indexByte q 83, i, 0, 0) else Ev (fun k => spec_l08First.l0 k l (i + 1)) r) → Ev (fun k => spec_l08First.l1 k l i j) r := by
  induction q with
  | nil =>
    intro p j r hp hj h
    have hlen : p.length = row.size := by rw [← bl_len, hp]; simp
    refine evSucc (fun k => by rw [spec_l08First.l1]) ?_
    refine evT h0 (evT h1 (evF (by rw [hr]; omega) ?_))
    rw [wrap_in (x := i + 1) (by omega) (by omega)]
    simpa using h
  | cons b q ih =>
    intro p j r hp hj h
    have hlen : p.length < row.size := by rw [← bl_len, hp]; simp
    have hb : bt (rdOf ByteArray.empty l i) j = (b.toNat : Int) := by rw [hr]; exact bt_mid hp hj
    have hp2 : bl row = (p ++ [b]) ++ q := by rw [hp]; simp
    have hj2 : j + 1 = ((p ++ [b]).length : Int) := by simp; omega
    refine evSucc (fun k => by rw [spec_l08First.l1]) ?_
    refine evT h0 (evT h1 (evT (by rw [hr]; omega) (evT (by omega) ?_)))
    rw [hb]
    by_cases c : b = 83
    · subst c
      rw [if_pos (by simp)] at h
      refine evT rfl ?_
      have e : Lib.indexByte (83 :: q) 83 = 0 := by simp [Lib.indexByte]
      rw [e] at h
      rw [h, Int.add_zero]
      exact evS _
    · refine evF (fun e => c ((byte_eq b 83 83 rfl).1 e)) ?_
      rw [wrap_in (x := j + 1) (by omega) (by omega)]
      refine ih (p ++ [b]) (j + 1) r hp2 hj2 ?_
      rw [contains_cons_ne b 83 q c] at h
      by_cases cq : q.contains 83 = true
      · rw [if_pos cq] at h ⊢
        rw [h, idx_cons_ne b 83 q c cq]
        simp
        omega
      · rw [if_neg cq] at h ⊢
        exact h
theorem firstScan (l : List ByteArray) (hl : l.length ≤ 1000) (hs : ∀ s ∈ l, s.size ≤ 1000) (rest : List ByteArray) : ∀ (pre : List ByteArray) (i : Int), l = pre ++ rest → i = pre.length →
    Ev (fun k => spec_l08First.l0 k l i) (match posS rest i with | none => (0, 0, 0, 0) | some z => (z.1, z.2, 0, 0)) := by
  induction rest with
  | nil =>
    intro pre i hp hi
    refine evSucc (fun k => by rw [spec_l08First.l0]) ?_
    exact evF (by rw [hp]; simp; omega) (evS _)
  | cons x rest ih =>
    intro pre i hp hi
    have hx : rdOf ByteArray.empty l i = x := by rw [hp]; exact rd_mid pre x rest i hi
    have hlt : i < (l.length : Int) := by rw [hp, hi]; simp; omega
    have hxs := hs x (by rw [hp]; simp)
    refine evSucc (fun k => by rw [spec_l08First.l0]) ?_
    refine evT hlt ?_
    refine firstRow l i x (by omega) hlt hx (by omega) hxs (bl x) [] 0 _ rfl rfl ?_
    simp only [posS]
    by_cases c : (bl x).contains 83 = true
    · rw [if_pos c, if_pos c]
      simp
    · rw [if_neg c, if_neg c]
      exact ih (pre ++ [x]) (i + 1) (by rw [hp]; simp) (by simp; omega)
theorem posS_find (l : List ByteArray) : ∀ (i x y : Int), posS l i = some (x, y) → idxF firstP l i = some y ∧ i ≤ y ∧ y < i + l.length ∧ Lib.indexByte (bl (rdOf ByteArray.empty l (y - i))) 83 = x ∧ 0 ≤ x ∧ x < ((rdOf ByteArray.empty l (y - i)).size : Int) := by
  induction l with
  | nil => intro i x y h; cases h
  | cons r l ih =>
    intro i x y h
    have hf : firstP r = some ((bl r).contains 83) := by
      show some (decide (0 ≤ Lib.indexByte (bl r) 83)) = _
      rw [← Lib.contains_iff_indexByte]
    simp only [posS] at h
    simp only [idxF, hf, Option.bind_some, List.length_cons]
    by_cases c : (bl r).contains 83 = true
    · rw [if_pos c] at h
      simp only [Option.some.injEq, Prod.mk.injEq] at h
      obtain ⟨h1, rfl⟩ := h
      have e : rdOf ByteArray.empty (r :: l) (i - i) = r := by simp [rdOf]
      rw [if_pos c, e]
      have h0 : 0 ≤ Lib.indexByte (bl r) 83 := by rw [Lib.contains_iff_indexByte] at c; exact of_decide_eq_true c
      have hlt : Lib.indexByte (bl r) 83 < ((bl r).length : Int) := by
        have h2 : Lib.indexByte (bl r) 83 = ((Lib.indexByte (bl r) 83).toNat : Int) := by omega
        have h3 := (Lib.indexByte_some h2).1
        have := (List.getElem?_eq_some_iff.1 h3).1
        omega
      rw [bl_len] at hlt
      exact ⟨rfl, by omega, by omega, h1, by omega, by omega⟩
    · rw [if_neg c] at h
      obtain ⟨h1, h2, h3, h4, h5, h6⟩ := ih (i + 1) x y h
      rw [if_neg c]
      have e : rdOf ByteArray.empty (r :: l) (y - i) = rdOf ByteArray.empty l (y - (i + 1)) := by
        unfold rdOf
        rw [show (y - i).toNat = (y - (i + 1)).toNat + 1 by omega, List.getD_cons_succ]
      rw [e]
      exact ⟨h1, by omega, by omega, h4, h5, h6⟩
theorem posS_some (l : List ByteArray) : ∀ i : Int, 0 < cnt 83 l → ∃ z, posS l i = some z := by
  induction l with
  | nil => intro i h; simp [cnt] at h
  | cons r l ih =>
    intro i h
    rw [cnt_cons] at h
    simp only [posS]
    by_cases c : (bl r).contains 83 = true
    · exact ⟨_, if_pos c⟩
    · rw [if_neg c]
      refine ih (i + 1) ?_
      have : (bl r).count 83 = 0 := List.count_eq_zero.2 (fun h => c (by simpa using h))
      omega
/-- What a track is, in parts. -/
theorem isT_parts {l : List ByteArray} (h : isT l = true) : 1 ≤ l.length ∧ l.length ≤ 16 ∧ 1 ≤ n0 l ∧ n0 l ≤ 16 ∧ (∀ r ∈ l, r.size = n0 l ∧ (bl r).all okB = true) ∧ cnt 83 l = 1 ∧ 0 < cnt 71 l := by
  unfold isT at h
  rw [scan_all] at h
  simp only [Bool.and_eq_true, decide_eq_true_eq, List.all_eq_true] at h
  obtain ⟨⟨h1, h2, h3, h4⟩, h5, h6, h7⟩ := h
  refine ⟨h1, h2, h3, h4, fun r hr => ?_, by omega, by omega⟩
  have := h5 r hr
  simp only [rowOk, Bool.and_eq_true, beq_iff_eq] at this
  exact this
theorem idxL_some {l : List ByteArray} (h : isT l = true) : ∃ x y : Int, posS l 0 = some (x, y) ∧ 0 ≤ x ∧ x < n0 l ∧ 0 ≤ y ∧ y < l.length := by
  obtain ⟨_, _, _, _, h5, h6, _⟩ := isT_parts h
  obtain ⟨⟨x, y⟩, hz⟩ := posS_some l 0 (by omega)
  obtain ⟨_, h2, h3, h4, h7, h8⟩ := posS_find l 0 x y hz
  refine ⟨x, y, hz, h7, ?_, h2, by omega⟩
  have hm : rdOf ByteArray.empty l (y - 0) ∈ l := by
    unfold rdOf
    have hlt : (y - 0).toNat < l.length := by omega
    rw [List.getD_eq_getElem?_getD, List.getElem?_eq_getElem hlt]
    exact List.getElem_mem hlt
  have := (h5 _ hm).1
  omega
theorem first_both {l : List ByteArray} (h : isT l = true) : ∃ x y : Int, Ev (fun k => spec_l08First.f k l) (x, y, 0, 0) ∧ impl_firstCar.f l = some (x, y, 0, 0) ∧ 0 ≤ x ∧ x < n0 l ∧ 0 ≤ y ∧ y < l.length := by
  obtain ⟨x, y, hz, h1, h2, h3, h4⟩ := idxL_some h
  obtain ⟨_, p2, _, p4, p5, _⟩ := isT_parts h
  obtain ⟨g1, _, _, g4, _, _⟩ := posS_find l 0 x y hz
  refine ⟨x, y, ?_, ?_, h1, h2, h3, h4⟩
  · have := firstScan l (by omega) (fun s hs => by have := (p5 s hs).1; omega) l [] 0 rfl rfl
    rw [hz] at this
    exact this
  · unfold impl_firstCar.f
    have e : idx_firstCar.f l = some y := g1
    rw [e]
    simp only [Option.bind_some]
    rw [if_pos h3, if_pos h4]
    rw [show y - 0 = y by omega] at g4
    have e2 : strings_Index.f (rdOf ByteArray.empty l y) (⟨#[83]⟩ : ByteArray) = some x := by
      show some (Lib.indexByte (bl (rdOf ByteArray.empty l y)) 83) = some x
      rw [g4]
    rw [e2]
    rfl
end Go.Proofs.YtjblefcdihmdbaaDoor.B
