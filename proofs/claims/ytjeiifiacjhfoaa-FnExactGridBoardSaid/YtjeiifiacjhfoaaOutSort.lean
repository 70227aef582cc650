/-
  slices.Sort and slices.Compact at []int64, out of the library's contracts, told as the printed functions are: the numbers ascending; runs of equal numbers made one.
-/
import Derived.Test.YtjeiifiacjhfoaaLays
import Derived.Test.YtjeiifiacjhfoaaQ0
import Derived.Lib.RowBridge
namespace Go.Proofs.Ytjeiifiacjhfoaa.Q
open Go.RowKit Go.Proofs.YtjeiifiacjhfoaaW.PrintWords Go.Proofs.YtjeiifiacjhfoaaW.PrintLast Go.Proofs.YtjeiifiacjhfoaaW.PrintMore

def ins (x : Int) : List Int → List Int
  | [] => [x]
  | y :: l => if x ≤ y then x :: y :: l else y :: ins x l
def isort : List Int → List Int
  | [] => []
  | x :: l => ins x (isort l)
theorem ins_perm (x : Int) (l : List Int) : (ins x l).Perm (x :: l) := by
  induction l with
  | nil => exact List.Perm.refl _
  | cons y l ih =>
    simp only [ins]
    split
    · exact List.Perm.refl _
    · exact (List.Perm.cons y ih).trans (List.Perm.swap x y l)
theorem ins_sorted (x : Int) (l : List Int) (h : l.Pairwise (fun a b => a ≤ b)) : (ins x l).Pairwise (fun a b => a ≤ b) := by
  induction l with
  | nil => simp [ins]
  | cons y l ih =>
    have h2 := List.pairwise_cons.1 h
    simp only [ins]
    split
    · rename_i c
      refine List.pairwise_cons.2 ⟨fun z hz => ?_, h⟩
      rcases List.mem_cons.1 hz with e | hz2
      · omega
      · have := h2.1 z hz2
        omega
    · rename_i c
      refine List.pairwise_cons.2 ⟨fun z hz => ?_, ih h2.2⟩
      rcases List.mem_cons.1 ((ins_perm x l).mem_iff.1 hz) with e | hz2
      · omega
      · exact h2.1 z hz2
theorem isort_perm (l : List Int) : (isort l).Perm l := by
  induction l with
  | nil => exact List.Perm.refl _
  | cons x l ih => exact (ins_perm x (isort l)).trans (List.Perm.cons x ih)
theorem isort_sorted (l : List Int) : (isort l).Pairwise (fun a b => a ≤ b) := by
  induction l with
  | nil => simp [isort]
  | cons x l ih => exact ins_sorted x _ ih
theorem isort_eq (l : List Int) : (l.mergeSort fun x y => decide (x ≤ y)) = isort l := by
  refine List.Perm.eq_of_pairwise (le := fun a b : Int => a ≤ b) (fun a b _ _ h1 h2 => by omega) ?_ (isort_sorted l) ((List.mergeSort_perm l _).trans (isort_perm l).symm)
  have := List.pairwise_mergeSort (le := fun x y : Int => decide (x ≤ y)) (fun a b c h1 h2 => by simp only [decide_eq_true_eq] at *; omega) (fun a b => by simp only [Bool.or_eq_true, decide_eq_true_eq]; omega) l
  exact this.imp (fun h => of_decide_eq_true h)
def slices_Sort_int64_int64.f (l : List Int) : Option (List Int) := if l.length ≤ 1000000 then some (isort l) else none
def slices_Compact_int64_int64.f (l : List Int) : Option (List Int) := if l.length ≤ 1000000 then some (Lib.compact l) else none

/-- A world behind a row's rewriting. -/
theorem put_at {w : World} {g n : Nat} {os : Array Obj} {cur : Array Value} {e : TypeId} (d : Array Int) (hh : w.heap[g]? = some (.cells cur e (0, 0))) :
    (Sort.grow (Sort.putRow (Value.int .i64) (Sort.ahead w n) g 0 d) os).heap[g]? = some (.cells (Sort.putCells (Value.int .i64) 0 d cur) e (0, 0)) := by
  have hlt := (Array.getElem?_eq_some_iff.1 hh).1
  show ((w.heap.modify g _) ++ os)[g]? = _
  rw [Array.getElem?_append_left (by simpa using hlt), Array.getElem?_modify, if_pos rfl, hh]
  rfl
theorem put_far {w : World} {g n : Nat} {os : Array Obj} (d : Array Int) (k : Nat) (hk : k < w.heap.size) (hne : k ≠ g) :
    (Sort.grow (Sort.putRow (Value.int .i64) (Sort.ahead w n) g 0 d) os).heap[k]? = w.heap[k]? := by
  show ((w.heap.modify g _) ++ os)[k]? = _
  rw [Array.getElem?_append_left (by simpa using hk), Array.getElem?_modify, if_neg (fun e => hne e.symm)]
theorem put_size {w : World} {g n : Nat} {os : Array Obj} (d : Array Int) : w.heap.size ≤ (Sort.grow (Sort.putRow (Value.int .i64) (Sort.ahead w n) g 0 d) os).heap.size := by
  show _ ≤ ((w.heap.modify g _) ++ os).size
  simp
theorem put_grown {w : World} {g n : Nat} {os : Array Obj} (d : Array Int) : w.grownBy (Sort.grow (Sort.putRow (Value.int .i64) (Sort.ahead w n) g 0 d) os) (some g) :=
  ⟨rfl, rfl, rfl, put_size d, fun k hk hne => put_far d k hk (fun e => hne (by rw [e]))⟩
theorem putCells_take (d : List Int) (cur : Array Value) (h : d.length ≤ cur.size) : (Sort.putCells (Value.int .i64) 0 d.toArray cur).toList.take d.length = d.map (Value.int .i64) := by
  apply List.ext_getElem?
  intro k
  rw [List.getElem?_take]
  split
  · rename_i hk
    unfold Sort.putCells
    rw [Array.getElem?_toList, Array.getElem?_mapIdx, List.getElem?_map]
    have h1 : k < cur.size := by omega
    rw [Array.getElem?_eq_getElem h1, List.getElem?_eq_getElem hk]
    simp [hk]
  · rename_i hk
    rw [List.getElem?_eq_none (by simp; omega)]
theorem holds_of {w : World} {g : Nat} {cur : Array Value} {e : TypeId} (l : List Int) (hh : w.heap[g]? = some (.cells cur e (0, 0))) (h : cur.toList.take l.length = l.map (Value.int .i64)) : Sort.Holds (Value.int .i64) w g 0 l.toArray := by
  intro j hj
  have hj2 : j < l.length := by simpa using hj
  refine ⟨?_, blk_frozen hh _⟩
  rw [Nat.zero_add, cell_of_row w g j cur e (0, 0) hh]
  have h1 : (cur.toList.take l.length)[j]? = (l.map (Value.int .i64))[j]? := by rw [h]
  rw [List.getElem?_take_of_lt hj2, List.getElem?_map, List.getElem?_eq_getElem hj2] at h1
  simpa [hj2] using h1
theorem R_put {w : World} {base g n cap m : Nat} {os : Array Obj} {e : TypeId} {cur : Array Value} {ok : Nat → Prop} (d r : List Int) (hb : base ≤ g) (hh : w.heap[g]? = some (.cells cur e (0, 0))) (hm : cur.size = cap) (hcm : cap ≤ maxLen) (hr : r.length = m) (hd : d.length ≤ cap) (hp : d.take m = r) (hmd : m ≤ d.length) (hok : ok g) :
    Kd.R (Kd.int .i64) e (Sort.grow (Sort.putRow (Value.int .i64) (Sort.ahead w n) g 0 d.toArray) os) base ok (.slice (some ⟨g, 0, none⟩) m cap) r := by
  refine Kd.R_of_own ?_ (fun k hk => ?_)
  · rw [hr]
    refine ⟨by rw [encs_length, hr, Nat.mul_one], .inr ⟨g, cap, _, rfl, hb, put_at _ hh, by omega, hcm, by rw [Nat.mul_one]; simp [Sort.putCells, hm], ?_⟩⟩
    rw [Nat.mul_one]
    have h1 := putCells_take d cur (by omega)
    have h2 : (Sort.putCells (Value.int .i64) 0 d.toArray cur).toList.take m = ((Sort.putCells (Value.int .i64) 0 d.toArray cur).toList.take d.length).take m := by rw [List.take_take, Nat.min_eq_left hmd]
    rw [h2, h1, ← List.map_take, hp]
    simp [encs]
  · have : k = g := by
      simp [Value.ownBlock] at hk
      first | exact hk | exact hk.symm
    rw [this]
    exact hok
theorem slices_Sort_int64_int64.calls (P0_ : Nat → Prop) (u9000_ : Value) (l0 : List Int) (r : List Int) (w0 w : World) (hB : Below w0.heap.size w0 w) (ho0 : Kd.R (Kd.int .i64) 2 w w0.heap.size P0_ u9000_ l0) (h : slices_Sort_int64_int64.f l0 = some r) :
    Calls Try.prog 88 #[u9000_] w fun e w' => e = .returned (.tuple #[]) ∧ Kd.R (Kd.int .i64) 2 w' w0.heap.size (fun k_ => (P0_ k_ ∨ w.heap.size ≤ k_)) u9000_ r ∧ Below w0.heap.size w0 w' ∧ Kept w w' (fun k_ => P0_ k_) := by
  unfold slices_Sort_int64_int64.f at h
  split at h
  rotate_left
  · cases h
  rename_i hl
  obtain rfl := Option.some.inj h
  clear h
  have hown := Kd.own_of_R ho0
  rcases hown.2 with ⟨hv, hz⟩ | ⟨g, cap, cur, hv, hb, hh, hnc, hcm, hcs, htake⟩
  · obtain rfl : l0 = [] := List.length_eq_zero_iff.1 hz
    subst hv
    refine (Try.slices_Sort_int_none none 0 w).mono ?_
    rintro e w1 ⟨rfl, rfl⟩
    exact ⟨rfl, Kd.R_mono (by rw [show isort [] = [] from rfl]; simpa using ho0) (fun k hk => .inl hk), hB, Kept.refl _ _⟩
  · subst hv
    rw [Nat.mul_one] at hcs htake
    have ht : cur.toList.take l0.length = l0.map (Value.int .i64) := by rw [htake]; simp [encs]
    have hg : P0_ g := ho0.1 g rfl
    refine (Try.slices_Sort_int g 0 cap l0 w (holds_of l0 hh ht) (Array.getElem?_eq_some_iff.1 hh).1 (by omega)).mono ?_
    rw [isort_eq]
    rintro e w1 ⟨rfl, n, os, rfl⟩
    have hlen := (isort_perm l0).length_eq
    refine ⟨rfl, ?_, hB.grown (put_grown _) (Nat.le_trans (Nat.le_refl _) hB.size) (fun k hk => by have := Option.some.inj hk; omega), put_size _, fun k hk hn => put_far _ k hk (fun e => hn (by rw [e]; exact hg))⟩
    exact R_put (isort l0) _ hb hh hcs hcm hlen (by omega) (by rw [← hlen, List.take_length]) (by omega) (.inl hg)
theorem slices_Compact_int64_int64.calls (P0_ : Nat → Prop) (u9000_ : Value) (l0 : List Int) (r : List Int) (w0 w : World) (hB : Below w0.heap.size w0 w) (ho0 : Kd.R (Kd.int .i64) 2 w w0.heap.size P0_ u9000_ l0) (h : slices_Compact_int64_int64.f l0 = some r) :
    Calls Try.prog 89 #[u9000_] w fun e w' => ∃ v0_ : Value, e = .returned (v0_) ∧ Kd.R (Kd.int .i64) 2 w' w0.heap.size (fun k_ => (P0_ k_ ∨ w.heap.size ≤ k_)) v0_ r ∧ Below w0.heap.size w0 w' ∧ Kept w w' (fun k_ => P0_ k_) := by
  unfold slices_Compact_int64_int64.f at h
  split at h
  rotate_left
  · cases h
  rename_i hl
  obtain rfl := Option.some.inj h
  clear h
  have hown := Kd.own_of_R ho0
  rcases hown.2 with ⟨hv, hz⟩ | ⟨g, cap, cur, hv, hb, hh, hnc, hcm, hcs, htake⟩
  · obtain rfl : l0 = [] := List.length_eq_zero_iff.1 hz
    subst hv
    refine (Try.slices_Compact_int_empty none 0 w).mono ?_
    rintro e w1 ⟨rfl, rfl⟩
    exact ⟨_, rfl, Kd.R_mono (by rw [show Lib.compact ([] : List Int) = [] from rfl]; simpa using ho0) (fun k hk => .inl hk), hB, Kept.refl _ _⟩
  · subst hv
    rw [Nat.mul_one] at hcs htake
    have ht : cur.toList.take l0.length = l0.map (Value.int .i64) := by rw [htake]; simp [encs]
    have hg : P0_ g := ho0.1 g rfl
    refine (Try.slices_Compact_int g 0 cap l0 w (holds_of l0 hh ht) (by omega) hnc).mono ?_
    rintro e w1 ⟨rfl, n, rfl⟩
    have hcl : (Lib.compact l0).length ≤ l0.length := Lib.compact_length_le l0
    rw [← Sort.grow_empty (Sort.putRow _ _ _ _ _)]
    refine ⟨_, rfl, ?_, hB.grown (put_grown _) (Nat.le_trans (Nat.le_refl _) hB.size) (fun k hk => by have := Option.some.inj hk; omega), put_size _, fun k hk hn => put_far _ k hk (fun e => hn (by rw [e]; exact hg))⟩
    exact R_put (Lib.compact l0 ++ List.replicate (l0.length - (Lib.compact l0).length) 0) _ hb hh hcs hcm rfl (by simp; omega) (by simp) (by simp) (.inl hg)
end Go.Proofs.Ytjeiifiacjhfoaa.Q
