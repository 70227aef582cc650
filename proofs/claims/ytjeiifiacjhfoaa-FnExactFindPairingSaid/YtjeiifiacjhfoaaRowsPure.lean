/-
  Rows of two numbers: equality, marks, held marks. At most 1,000 rows.
-/
import Derived.Test.YtjeiifiacjhfoaaOutMark
import Derived.Test.YtjeiifiacjhfoaaEvBase
import Derived.Test.YtjeiifiacjhfoaaQ1
namespace Go.Proofs.Ytjeiifiacjhfoaa.B
open Go.RowKit Go.Proofs.Ytjeiifiacjhfoaa.Q Go.Proofs.YtjeiifiacjhfoaaW.PrintWords Go.Proofs.YtjeiifiacjhfoaaW.PrintLast Go.Proofs.YtjeiifiacjhfoaaW.PrintMore

theorem rd_mid_row2 (p : List (List Int)) (x : List Int) (q : List (List Int)) (i : Int) (hi : i = p.length) : (p ++ x :: q).getD i.toNat ([] : List Int) = x := by
  subst hi
  simp
theorem eqRows_l (l : List (List Int)) (hl : l.length ≤ 1000000) (h2 : ∀ s ∈ l, s.length = 2) (q : List (List Int)) : ∀ (p : List (List Int)) (i : Int), l = p ++ q → i = p.length → Ev (fun k => laws_eqInt64SS.l0 k l l i) true := by
  induction q with
  | nil =>
    intro p i hp hi
    refine evSucc (fun k => by rw [laws_eqInt64SS.l0]) ?_
    exact evF (by rw [hp]; simp; omega) (evS _)
  | cons x q ih =>
    intro p i hp hi
    have hlt : i < (l.length : Int) := by rw [hp, hi]; simp; omega
    have hx : rd_L1 l i = x := by rw [hp]; exact rd_mid_row2 p x q i hi
    have hx2 := h2 x (by rw [hp]; simp)
    refine evSucc (fun k => by rw [laws_eqInt64SS.l0]) ?_
    rw [hx, wrap_in (x := i + 1) (by omega) (by omega)]
    exact evT hlt (evT (by omega) (evT hlt (evB (eqInts x (by omega)) (evT rfl (ih (p ++ [x]) (i + 1) (by rw [hp]; simp) (by simp; omega))))))
theorem eqRows (l : List (List Int)) (hl : l.length ≤ 1000000) (h2 : ∀ s ∈ l, s.length = 2) : Ev (fun k => laws_eqInt64SS.f k l l) true := by
  unfold laws_eqInt64SS.f
  exact evT rfl (eqRows_l l hl h2 l [] 0 rfl rfl)
/-- The marks of n rows of two. -/
def marksR (m : Int) : Nat → List (List Int)
  | 0 => []
  | n + 1 => marks m 2 :: marksR (m + 2) n
theorem marksR_len (n : Nat) : ∀ m, (marksR m n).length = n := by
  induction n with
  | zero => intro m; rfl
  | succ n ih => intro m; simp [marksR, ih]
theorem markRows_l (q : List (List Int)) (h2 : ∀ s ∈ q, s.length = 2) : ∀ (p : List (List Int)) (m i : Int), i = p.length → 0 ≤ m → m + 2 * q.length ≤ 1000000 → p.length + q.length ≤ 1000000 →
    Ev (fun k => laws_markInt64SS.l0 k (p ++ q) m i) (m + 2 * q.length, p ++ marksR m q.length) := by
  induction q with
  | nil =>
    intro p m i hi hm h1 h3
    refine evSucc (fun k => by rw [laws_markInt64SS.l0]) ?_
    exact evF (by simp; omega) (evE (by simp [marksR]) (evS _))
  | cons x q ih =>
    intro p m i hi hm h1 h3
    simp only [List.length_cons] at h1 h3
    have hx2 := h2 x (by simp)
    have hx : rdRow (p ++ x :: q) i = x := rd_mid_row2 p x q i hi
    refine evSucc (fun k => by rw [laws_markInt64SS.l0]) ?_
    rw [hx, wrap_in (x := i + 1) (by omega) (by omega)]
    have hmk := markInts x m hm (by omega)
    rw [hx2] at hmk
    refine evT (by simp only [List.length_append, List.length_cons]; omega) (evT (by omega) (evB hmk ?_))
    have e : (p ++ x :: q).set i.toNat (marks m 2) = (p ++ [marks m 2]) ++ q := by
      rw [show i.toNat = p.length by omega]
      simp
    simp only [e]
    refine evE ?_ (ih (fun s hs => h2 s (by simp [hs])) (p ++ [marks m 2]) (m + 2) (i + 1) (by simp; omega) (by omega) (by omega) (by simp; omega))
    simp [marksR]
    omega
theorem markRows (q : List (List Int)) (h2 : ∀ s ∈ q, s.length = 2) (hl : q.length ≤ 1000) : Ev (fun k => laws_markInt64SS.f k q 1) (1 + 2 * q.length, marksR 1 q.length) := by
  unfold laws_markInt64SS.f
  have := markRows_l q h2 [] 1 0 (by simp) (by omega) (by omega) (by simp; omega)
  simpa using this
theorem heldRows_l (n : Nat) : ∀ (p : List (List Int)) (m i : Int), i = p.length → 0 ≤ m → m + 2 * n ≤ 1000000 → p.length + n ≤ 1000000 → Ev (fun k => laws_heldInt64SS.l0 k (p ++ marksR m n) m i) (m + 2 * n) := by
  induction n with
  | zero =>
    intro p m i hi hm h1 h3
    refine evSucc (fun k => by rw [laws_heldInt64SS.l0]) ?_
    exact evF (by simp [marksR]; omega) (evE (by simp) (evS _))
  | succ n ih =>
    intro p m i hi hm h1 h3
    refine evSucc (fun k => by rw [laws_heldInt64SS.l0]) ?_
    simp only [marksR]
    have hx : rd_L1 (p ++ marks m 2 :: marksR (m + 2) n) i = marks m 2 := rd_mid_row2 p _ _ i hi
    rw [hx, wrap_in (x := i + 1) (by omega) (by omega)]
    have hh := heldInts 2 m hm (by omega)
    refine evT (by simp only [List.length_append, List.length_cons]; omega) (evT (by omega) (evB hh (evF (by omega) ?_)))
    rw [show p ++ marks m 2 :: marksR (m + 2) n = (p ++ [marks m 2]) ++ marksR (m + 2) n by simp]
    refine evE ?_ (ih (p ++ [marks m 2]) (m + 2) (i + 1) (by simp; omega) (by omega) (by omega) (by simp; omega))
    omega
theorem heldRows (n : Nat) (h : n ≤ 1000) : Ev (fun k => laws_heldInt64SS.f k (marksR 1 n) 1) (1 + 2 * n) := by
  unfold laws_heldInt64SS.f
  have := heldRows_l n [] 1 0 (by simp) (by omega) (by omega) (by simp; omega)
  simpa using this
theorem ev_and {α β : Type} {f : Nat → Option α} {g : Nat → Option β} {a : α} {b : β} (h : Ev f a) (k : Ev g b) : ∃ K, ∀ n, K ≤ n → f n = some a ∧ g n = some b := by
  obtain ⟨K1, h1⟩ := h
  obtain ⟨K2, h2⟩ := k
  exact ⟨K1 + K2, fun n hn => ⟨h1 n (by omega), h2 n (by omega)⟩⟩
end Go.Proofs.Ytjeiifiacjhfoaa.B
