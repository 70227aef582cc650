/-
  Lists of moves that have met no goal, told by where they end; how often a car stands in such a list.
-/
import Derived.Test.YtjblefcdihmdbaaDoorGoalPure
namespace Go.Proofs.YtjblefcdihmdbaaDoor.B
open Go.RowKit Go.Proofs.YtjblefcdihmdbaaDoor.Q Go.Proofs.YtjblefcdihmdbaaDoorW.PrintWords Go.Proofs.YtjblefcdihmdbaaDoorW.PrintLast

def nextsQ (l : List ByteArray) (q : Q4) : List Q4 := if goalB l q = true then [] else (movesQ l q).map (nextQ q)
def routesL (l : List ByteArray) : Nat → List Q4 → List Q4
  | 0, R => R
  | d + 1, R => routesL l d (R.flatMap (nextsQ l))
instance (l : List ByteArray) (q : Q4) : Decidable (Good l q) := by unfold Good; infer_instance
def GoodL (l : List ByteArray) (R : List Q4) : Prop := ∀ q ∈ R, Good l q
theorem nexts_good {l : List ByteArray} {q n : Q4} (h : n ∈ nextsQ l q) : Good l n := by
  unfold nextsQ at h
  split at h
  · cases h
  · obtain ⟨m, hm, rfl⟩ := List.mem_map.1 h
    exact open_good (movesQ_open hm)
theorem GoodL.next {l : List ByteArray} {R : List Q4} : GoodL l (R.flatMap (nextsQ l)) := by
  intro q hq
  obtain ⟨p, _, hp⟩ := List.mem_flatMap.1 hq
  exact nexts_good hp
theorem nexts_len (l : List ByteArray) (q : Q4) : (nextsQ l q).length ≤ 9 := by
  unfold nextsQ
  split
  · simp
  · rw [List.length_map]
    exact movesQ_len l q
theorem flat_len (l : List ByteArray) (R : List Q4) : (R.flatMap (nextsQ l)).length ≤ 9 * R.length := by
  induction R with
  | nil => simp
  | cons q R ih =>
    have := nexts_len l q
    simp only [List.flatMap_cons, List.length_append, List.length_cons]
    omega
def wayF (R : List Q4) (q : Q4) : Option Int := if q ∈ R then some (R.count q : Int) else none
theorem wayF_getD (R : List Q4) (q : Q4) : (wayF R q).getD 0 = (R.count q : Int) := by
  unfold wayF
  split
  · rfl
  · rename_i h
    rw [List.count_eq_zero.2 h]
    rfl
theorem wayF_mem {R : List Q4} {q : Q4} {c : Int} (h : wayF R q = some c) : q ∈ R ∧ c = (R.count q : Int) := by
  unfold wayF at h
  split at h
  · rename_i hm
    exact ⟨hm, (Option.some.inj h).symm⟩
  · cases h
theorem wayF_eq {N M : List Q4} (h : ∀ z, N.count z = M.count z) (z : Q4) : wayF N z = wayF M z := by
  unfold wayF
  have e : z ∈ N ↔ z ∈ M := by rw [← List.count_pos_iff, ← List.count_pos_iff, h]
  by_cases c : z ∈ N
  · rw [if_pos c, if_pos (e.1 c), h]
  · rw [if_neg c, if_neg (fun k => c (e.2 k))]
theorem count_more (N : List Q4) (n : Nat) (q z : Q4) : (N ++ List.replicate n q).count z = N.count z + (if q = z then n else 0) := by
  rw [List.count_append, List.count_replicate]
  by_cases c : q = z
  · subst c
    simp
  · rw [if_neg (by simpa using c), if_neg c]
theorem wayF_add (N : List Q4) (n : Nat) (hn : 1 ≤ n) (q z : Q4) : wayF (N ++ List.replicate n q) z = if z = q then some ((N.count q : Int) + n) else wayF N z := by
  by_cases c : z = q
  · subst c
    rw [if_pos rfl]
    unfold wayF
    rw [if_pos (List.mem_append.2 (Or.inr (List.mem_replicate.2 ⟨by omega, rfl⟩))), count_more, if_pos rfl]
    simp
  · rw [if_neg c]
    have e0 : (if q = z then n else 0) = 0 := if_neg (fun e => c e.symm)
    have e : z ∈ N ++ List.replicate n q ↔ z ∈ N := by
      rw [List.mem_append, List.mem_replicate]
      exact ⟨fun h => h.elim id (fun h => absurd h.2 c), Or.inl⟩
    unfold wayF
    rw [count_more, e0, Nat.add_zero]
    by_cases hm : z ∈ N
    · rw [if_pos hm, if_pos (e.2 hm)]
    · rw [if_neg hm, if_neg (fun k => hm (e.1 k))]
def sumT (F : Q4 → Nat) (todo : List Q4) : Nat := (todo.map F).sum
theorem sumT_erase (F : Q4 → Nat) {todo : List Q4} {x : Q4} (h : x ∈ todo) : sumT F todo = F x + sumT F (todo.erase x) := by
  have := ((List.perm_cons_erase h).map F).sum_nat
  unfold sumT
  rw [this]
  simp
theorem sumT_zero {todo : List Q4} {F : Q4 → Nat} (h : ∀ q ∈ todo, F q = 0) : sumT F todo = 0 := by
  induction todo with
  | nil => rfl
  | cons a l ih =>
    have h1 := h a (by simp)
    have h2 := ih (fun q hq => h q (by simp [hq]))
    unfold sumT at *
    simp [h1, h2]
theorem sumT_add (F G : Q4 → Nat) (l : List Q4) : sumT (fun q => F q + G q) l = sumT F l + sumT G l := by
  induction l with
  | nil => rfl
  | cons a l ih =>
    unfold sumT at *
    simp only [List.map_cons, List.sum_cons, ih]
    omega
theorem sum_keys (F : Q4 → Nat) {ks : List Q4} (hd : ks.Nodup) (R : List Q4) : (∀ q ∈ R, q ∈ ks) → sumT F R = sumT (fun q => R.count q * F q) ks := by
  induction R with
  | nil =>
    intro _
    rw [sumT_zero (todo := ks) (F := fun q => ([] : List Q4).count q * F q) (fun q _ => by simp)]
    rfl
  | cons a R ih =>
    intro h
    have e1 : (fun q => (a :: R).count q * F q) = fun q => R.count q * F q + (if a = q then F q else 0) := by
      funext q
      rw [List.count_cons]
      by_cases c : a = q
      · subst c
        simp [Nat.add_mul]
      · rw [if_neg (by simpa using c), if_neg c]
        simp
    have e2 : sumT (fun q => if a = q then F q else 0) ks = F a := by
      have ha := h a (by simp)
      rw [sumT_erase _ ha, sumT_zero (todo := ks.erase a) (fun q hq => if_neg (fun e => (hd.mem_erase_iff.1 hq).1 e.symm))]
      simp
    rw [e1, sumT_add, e2, ← ih (fun q hq => h q (by simp [hq]))]
    unfold sumT
    simp only [List.map_cons, List.sum_cons]
    omega
theorem count_flat (nx : Q4 → List Q4) (z : Q4) (R : List Q4) : (R.flatMap nx).count z = sumT (fun q => (nx q).count z) R := by
  induction R with
  | nil => rfl
  | cons a R ih =>
    unfold sumT at *
    rw [List.flatMap_cons, List.count_append, ih]
    rfl
theorem flat_keys (nx : Q4 → List Q4) (z : Q4) {ks : List Q4} (hd : ks.Nodup) (R : List Q4) (h : ∀ q ∈ R, q ∈ ks) : (R.flatMap nx).count z = sumT (fun q => R.count q * (nx q).count z) ks := by
  rw [count_flat, sum_keys _ hd R h]
theorem countP_keys (p : Q4 → Bool) {ks : List Q4} (hd : ks.Nodup) (R : List Q4) (h : ∀ q ∈ R, q ∈ ks) : R.countP p = sumT (fun q => R.count q * (if p q = true then 1 else 0)) ks := by
  rw [← sum_keys (fun q => if p q = true then 1 else 0) hd R h]
  clear h
  induction R with
  | nil => rfl
  | cons a R ih =>
    unfold sumT at *
    rw [List.countP_cons, ih]
    simp only [List.map_cons, List.sum_cons]
    omega
/-- All cars, by their numbers. -/
def allQ : List Q4 := (List.range 30976).map fun n : Nat => ((((n / 121) % 16 : Nat) : Int), ((n / 121 / 16 : Nat) : Int), (((n / 11) % 11 : Nat) : Int) - 5, ((n % 11 : Nat) : Int) - 5)
theorem allQ_len : allQ.length = 30976 := by
  unfold allQ
  rw [List.length_map, List.length_range]
theorem mem_allQ {l : List ByteArray} (ht : isT l = true) {q : Q4} (h : Good l q) : q ∈ allQ := by
  have hR := h.range ht
  have hn := numQ_range hR
  unfold allQ
  refine List.mem_map.2 ⟨(numQ q).toNat, List.mem_range.2 (by omega), ?_⟩
  obtain ⟨x, y, u, v⟩ := q
  simp only [numQ, Prod.mk.injEq] at *
  refine ⟨?_, ?_, ?_, ?_⟩ <;> omega
end Go.Proofs.YtjblefcdihmdbaaDoor.B
