/-
  Plain lemmas on 'Ev' (with enough rounds the printed function answers so) and on the laws' own helpers for lists of numbers: equality, marks, held marks. No conditions beyond lengths.
-/
import Derived.Test.YtjeiifiacjhfoaaQ1
namespace Go.Proofs.Ytjeiifiacjhfoaa.B
open Go.RowKit Go.Proofs.Ytjeiifiacjhfoaa.Q Go.Proofs.YtjeiifiacjhfoaaW.PrintWords Go.Proofs.YtjeiifiacjhfoaaW.PrintLast

theorem evS {α : Type} (r : α) : Ev (fun _ => some r) r := ⟨0, fun _ _ => rfl⟩
theorem evE {α : Type} {g : Nat → Option α} {r r' : α} (h : r = r') (k : Ev g r) : Ev g r' := h ▸ k
theorem evC {α : Type} {o : Option α} {r : α} (h : o = some r) : Ev (fun _ => o) r := ⟨0, fun _ _ => h⟩
theorem evT {α : Type} {c : Prop} [Decidable c] {g f : Nat → Option α} {r : α} (h : c) (k : Ev g r) : Ev (fun n => if c then g n else f n) r := by
  obtain ⟨K, hK⟩ := k
  exact ⟨K, fun n hn => (if_pos h).trans (hK n hn)⟩
theorem evF {α : Type} {c : Prop} [Decidable c] {g f : Nat → Option α} {r : α} (h : ¬ c) (k : Ev f r) : Ev (fun n => if c then g n else f n) r := by
  obtain ⟨K, hK⟩ := k
  exact ⟨K, fun n hn => (if_neg h).trans (hK n hn)⟩
theorem evB {α β : Type} {g : Nat → Option α} {f : Nat → α → Option β} {a : α} {r : β} (h : Ev g a) (k : Ev (fun n => f n a) r) : Ev (fun n => (g n).bind (f n)) r := Ev.bind h k
/-- A bind whose first part is known. -/
theorem evG {α β : Type} {o : Option α} {f : Nat → α → Option β} {a : α} {r : β} (h : o = some a) (k : Ev (fun n => f n a) r) : Ev (fun n => o.bind (f n)) r := by
  subst h
  exact k
theorem evSucc {α : Type} {g f : Nat → Option α} {r : α} (h : ∀ k, g (k + 1) = f k) (k : Ev f r) : Ev g r := Ev.step h k
theorem wrap_in {x : Int} (h0 : -9223372036854775808 ≤ x) (h1 : x ≤ 9223372036854775807) : wrap64 x = x := by
  unfold wrap64
  omega

theorem eqInts_l (l : List Int) (hl : l.length ≤ 4000000000000000000) (d : Nat) : ∀ i : Int, 0 ≤ i → i + d = l.length → Ev (fun k => laws_eqInt64S.l0 k l l i) true := by
  induction d with
  | zero =>
    intro i h0 hd
    refine evSucc (fun k => by rw [laws_eqInt64S.l0]) ?_
    exact evF (by omega) (evS _)
  | succ d ih =>
    intro i h0 hd
    refine evSucc (fun k => by rw [laws_eqInt64S.l0]) ?_
    refine evT (by omega) (evT h0 (evT (by omega) (evT (by rfl) ?_)))
    rw [wrap_in (by omega) (by omega)]
    exact ih (i + 1) (by omega) (by omega)
theorem eqInts (l : List Int) (hl : l.length ≤ 4000000000000000000) : Ev (fun k => laws_eqInt64S.f k l l) true := by
  unfold laws_eqInt64S.f
  exact evT (by rfl) (eqInts_l l hl l.length 0 (by omega) (by omega))

/-- The marks m, m + 1, .. -/
def marks (m : Int) : Nat → List Int
  | 0 => []
  | n + 1 => m :: marks (m + 1) n
theorem marks_length (n : Nat) : ∀ m, (marks m n).length = n := by
  induction n with
  | zero => intro m; rfl
  | succ n ih => intro m; simp [marks, ih]
theorem marks_get (n : Nat) : ∀ (m : Int) (j : Nat), j < n → (marks m n).getD j 0 = m + j := by
  induction n with
  | zero => intro m j h; omega
  | succ n ih =>
    intro m j h
    cases j with
    | zero => simp [marks]
    | succ j =>
      have := ih (m + 1) j (by omega)
      simp only [marks, List.getD_cons_succ]
      rw [this]
      omega
theorem set_mid (p : List Int) (x y : Int) (q : List Int) : (p ++ x :: q).set p.length y = p ++ y :: q := by simp
theorem markInts_l (q : List Int) : ∀ (p : List Int) (m i : Int), i = p.length → 0 ≤ m → m + q.length ≤ 4000000000000000000 → p.length + q.length ≤ 4000000000000000000 →
    Ev (fun k => laws_markInt64S.l0 k (p ++ q) m i) (m + q.length, p ++ marks m q.length) := by
  induction q with
  | nil =>
    intro p m i hi hm h1 h2
    refine evSucc (fun k => by rw [laws_markInt64S.l0]) ?_
    refine evF (by simp; omega) ?_
    exact evE (by simp [marks]) (evS _)
  | cons x q ih =>
    intro p m i hi hm h1 h2
    simp only [List.length_cons] at h1 h2
    refine evSucc (fun k => by rw [laws_markInt64S.l0]) ?_
    refine evT (by simp only [List.length_append, List.length_cons]; omega) (evT (by omega) ?_)
    rw [wrap_in (by omega) (by omega), wrap_in (x := i + 1) (by omega) (by omega)]
    have e : (p ++ x :: q).set i.toNat m = (p ++ [m]) ++ q := by
      rw [show i.toNat = p.length by omega, set_mid]
      simp
    rw [e]
    refine evE ?_ (ih (p ++ [m]) (m + 1) (i + 1) (by simp; omega) (by omega) (by omega) (by simp; omega))
    simp [marks]
    omega
theorem markInts (l : List Int) (m : Int) (hm : 0 ≤ m) (hl : m + l.length ≤ 4000000000000000000) : Ev (fun k => laws_markInt64S.f k l m) (m + l.length, marks m l.length) := by
  unfold laws_markInt64S.f
  have := markInts_l l [] m 0 (by simp) hm hl (by simp; omega)
  simpa using this
theorem heldInts_l (n : Nat) (m : Int) (hm : 0 ≤ m) (hl : m + n ≤ 4000000000000000000) (d : Nat) : ∀ i : Int, 0 ≤ i → i + d = n → Ev (fun k => laws_heldInt64S.l0 k (marks m n) (m + i) i) (m + n) := by
  induction d with
  | zero =>
    intro i h0 hd
    refine evSucc (fun k => by rw [laws_heldInt64S.l0]) ?_
    refine evF (by rw [marks_length]; omega) ?_
    exact evE (by omega) (evS _)
  | succ d ih =>
    intro i h0 hd
    refine evSucc (fun k => by rw [laws_heldInt64S.l0]) ?_
    refine evT (by rw [marks_length]; omega) (evT h0 (evT ?_ ?_))
    · unfold rd
      rw [marks_get n m i.toNat (by omega)]
      omega
    rw [wrap_in (by omega) (by omega), wrap_in (x := i + 1) (by omega) (by omega), show m + i + 1 = m + (i + 1) by omega]
    exact ih (i + 1) (by omega) (by omega)
theorem heldInts (n : Nat) (m : Int) (hm : 0 ≤ m) (hl : m + n ≤ 4000000000000000000) : Ev (fun k => laws_heldInt64S.f k (marks m n) m) (m + n) := by
  unfold laws_heldInt64S.f
  have := heldInts_l n m hm hl n 0 (by omega) (by omega)
  simpa using this
end Go.Proofs.Ytjeiifiacjhfoaa.B
