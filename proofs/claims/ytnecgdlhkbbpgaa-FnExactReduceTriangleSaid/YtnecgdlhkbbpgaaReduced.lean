/-
  The reference's and the program's reduced triangles are the same, for sides 2 to 8 and cells of 1 and 2; and so are the codes of a triangle.
-/
import Derived.Test.YtnecgdlhkbbpgaaQ4
import Derived.Test.YtnecgdlhkbbpgaaQ10
import Derived.Test.YtnecgdlhkbbpgaaQ3
import Derived.Test.YtnecgdlhkbbpgaaEvTo
import Derived.Test.YtnecgdlhkbbpgaaNearSame
namespace Go.Proofs.Ytnecgdlhkbbpgaa.B
open Go.RowKit Go.Proofs.Ytnecgdlhkbbpgaa.Q Go.Proofs.YtnecgdlhkbbpgaaW.PrintWords Go.Proofs.YtnecgdlhkbbpgaaW.PrintLast

def tri (r : Int) : Int := r * (r + 1) / 2
theorem tri_facts (r : Int) (h0 : 0 ≤ r) (h1 : r ≤ 8) : wrap64 (Int.tdiv (wrap64 (r * wrap64 (r + 1))) 2) = tri r ∧ wrap64 (Int.tdiv (wrap64 (wrap64 (r + 1) * wrap64 (r + 2))) 2) = tri (r + 1) ∧
    tri (r + 1) = tri r + r + 1 ∧ 0 ≤ tri r ∧ tri r ≤ 36 := by
  have : r = 0 ∨ r = 1 ∨ r = 2 ∨ r = 3 ∨ r = 4 ∨ r = 5 ∨ r = 6 ∨ r = 7 ∨ r = 8 := by omega
  rcases this with rfl | rfl | rfl | rfl | rfl | rfl | rfl | rfl | rfl <;> decide +kernel
theorem tri_mono (r n : Int) (h0 : 0 ≤ r) (h1 : r ≤ n) (h2 : n ≤ 9) : tri r ≤ tri n := by
  obtain ⟨d, hd⟩ : ∃ d : Nat, n = r + d := ⟨(n - r).toNat, by omega⟩
  induction d generalizing n with
  | zero => rw [show n = r by omega]; exact Int.le_refl _
  | succ d ih =>
    have := ih (n - 1) (by omega) (by omega) (by omega)
    have h := (tri_facts (n - 1) (by omega) (by omega)).2.2.1
    rw [show n - 1 + 1 = n by omega] at h
    omega
theorem bit_eq (b : Bool) : impl_bit.f b = some (if b = true then 1 else 0) := by cases b <;> rfl
def okCells (l : List Int) : Prop := ∀ x ∈ l, x = 1 ∨ x = 2
theorem okCells_snoc {l : List Int} {x : Int} (h : okCells l) (hx : x = 1 ∨ x = 2) : okCells (l ++ [x]) := by
  intro y hy
  rcases List.mem_append.1 hy with hy | hy
  · exact h y hy
  · simp at hy; omega

theorem red_loop (n : Int) (hn : 2 ≤ n) (hn8 : n ≤ 8) (l : List Int) (hl : (l.length : Int) = tri n) (h12 : okCells l) (m : Nat) :
    ∀ (r c : Int) (acc : List Int), 0 ≤ r → r ≤ n - 2 → 0 ≤ c → c ≤ r + 1 → (acc.length : Int) = tri r + c → okCells acc → (tri (n - 1) - tri r - c) + (n - 1 - r) = m →
    ∃ R, Ev (fun k => impl_reduced.l1 k l acc r (n - 1) r (r + 1) c) R ∧ Ev (fun k => spec_l06Reduced.l1 k n l acc r c) R ∧ (R.length : Int) = tri (n - 1) ∧ okCells R := by
  induction m with
  | zero =>
    intro r c acc h0 h1 h2 h3 h4 h5 hm
    have := tri_mono (r + 1) (n - 1) (by omega) (by omega) (by omega)
    have := (tri_facts r h0 (by omega)).2.2.1
    omega
  | succ m ih =>
    intro r c acc h0 h1 h2 h3 h4 h5 hm
    obtain ⟨e1, e2, f1, f2, f3⟩ := tri_facts r h0 (by omega)
    obtain ⟨_, _, g1, g2, g3⟩ := tri_facts (r + 1) (by omega) (by omega)
    have g4 := tri_mono (r + 1 + 1) n (by omega) (by omega) (by omega)
    have w1 : wrap64 (tri r + c) = tri r + c := wrap_in (by omega) (by omega)
    have w2 : wrap64 (tri (r + 1) + c) = tri (r + 1) + c := wrap_in (by omega) (by omega)
    have w3 : wrap64 (tri (r + 1) + c + 1) = tri (r + 1) + c + 1 := wrap_in (by omega) (by omega)
    have w4 : wrap64 (c + 1) = c + 1 := wrap_in (by omega) (by omega)
    have w5 : wrap64 (r + 1) = r + 1 := wrap_in (by omega) (by omega)
    have w6 : wrap64 (n - 1) = n - 1 := wrap_in (by omega) (by omega)
    by_cases hc : c < r + 1
    · have y1 := h12 _ (rd_mem l (tri r + c) (by omega) (by omega))
      have y2 := h12 _ (rd_mem l (tri (r + 1) + c) (by omega) (by omega))
      have y3 := h12 _ (rd_mem l (tri (r + 1) + c + 1) (by omega) (by omega))
      have key : ∀ x : Int, (x = 1 ∨ x = 2) → ∃ R, Ev (fun k => impl_reduced.l1 k l (acc ++ [x]) r (n - 1) r (r + 1) (c + 1)) R ∧ Ev (fun k => spec_l06Reduced.l1 k n l (acc ++ [x]) r (c + 1)) R ∧ (R.length : Int) = tri (n - 1) ∧ okCells R :=
        fun x hx => ih r (c + 1) (acc ++ [x]) h0 h1 (by omega) (by omega) (by simp; omega) (okCells_snoc h5 hx) (by omega)
      have hacc : acc.length < 17592186044416 := by omega
      have two : ∀ x : Int, (x = 1 ∨ x = 2) → (∀ R, Ev (fun k => impl_reduced.l1 k l (acc ++ [x]) r (n - 1) r (r + 1) (c + 1)) R → Ev (fun k => impl_reduced.l1 k l acc r (n - 1) r (r + 1) c) R) →
          (∀ R, Ev (fun k => spec_l06Reduced.l1 k n l (acc ++ [x]) r (c + 1)) R → Ev (fun k => spec_l06Reduced.l1 k n l acc r c) R) →
          ∃ R, Ev (fun k => impl_reduced.l1 k l acc r (n - 1) r (r + 1) c) R ∧ Ev (fun k => spec_l06Reduced.l1 k n l acc r c) R ∧ (R.length : Int) = tri (n - 1) ∧ okCells R := by
        intro x hx hi hs
        obtain ⟨R, a1, a2, a3⟩ := key x hx
        exact ⟨R, hi R a1, hs R a2, a3⟩
      have hI : ∀ x : Int, wrap64 (2 - (if decide ((wrap64 ((wrap64 ((if (rd l (tri r + c) == 1) = true then 1 else 0) + (if (rd l (tri (r + 1) + c) == 1) = true then 1 else 0))) + (if (rd l (tri (r + 1) + c + 1) == 1) = true then 1 else 0))) ≥ (2 : Int)) = true then 1 else 0)) = x →
          ∀ R, Ev (fun k => impl_reduced.l1 k l (acc ++ [x]) r (n - 1) r (r + 1) (c + 1)) R → Ev (fun k => impl_reduced.l1 k l acc r (n - 1) r (r + 1) c) R := by
        intro x hx R hR
        refine evSucc (fun k => by rw [impl_reduced.l1]) ?_
        simp only [e1, e2, w1, w2, w3, w4]
        refine evT hc (evT (by omega) (evT (by omega) (evG (bit_eq _) (evT (by omega) (evT (by omega) (evG (bit_eq _) (evT (by omega) (evT (by omega) (evG (bit_eq _) (evG (bit_eq _) (evT hacc ?_)))))))))))
        rw [hx]
        exact hR
      have hS : ∀ x : Int, (if wrap64 (wrap64 (rd l (tri r + c) + rd l (tri (r + 1) + c)) + rd l (tri (r + 1) + c + 1)) < 5 then (1 : Int) else 2) = x →
          ∀ R, Ev (fun k => spec_l06Reduced.l1 k n l (acc ++ [x]) r (c + 1)) R → Ev (fun k => spec_l06Reduced.l1 k n l acc r c) R := by
        intro x hx R hR
        refine evSucc (fun k => by rw [spec_l06Reduced.l1]) ?_
        simp only [e1, e2, w1, w2, w3, w4]
        refine evT (by omega) (evT (by omega) (evT (by omega) (evT (by omega) (evT (by omega) (evT (by omega) (evT (by omega) ?_))))))
        split at hx
        · rename_i h
          subst hx
          exact evT h (evT hacc hR)
        · rename_i h
          subst hx
          exact evF h (evT hacc hR)
      rcases y1 with y1 | y1 <;> rcases y2 with y2 | y2 <;> rcases y3 with y3 | y3 <;>
        first
        | exact two 1 (.inl rfl) (hI 1 (by rw [y1, y2, y3]; decide +kernel)) (hS 1 (by rw [y1, y2, y3]; decide +kernel))
        | exact two 2 (.inr rfl) (hI 2 (by rw [y1, y2, y3]; decide +kernel)) (hS 2 (by rw [y1, y2, y3]; decide +kernel))
    · obtain rfl : c = r + 1 := by omega
      by_cases hr : r + 1 < n - 1
      · obtain ⟨R, a1, a2, a3⟩ := ih (r + 1) 0 acc (by omega) (by omega) (by omega) (by omega) (by omega) h5 (by omega)
        refine ⟨R, ?_, ?_, a3⟩
        · refine evSucc (fun k => by rw [impl_reduced.l1]) ?_
          refine evF (by omega) ?_
          refine evSucc (fun k => by rw [impl_reduced.l0]) ?_
          rw [w5]
          rw [show wrap64 (r + 1 + 1) = r + 1 + 1 from w4]
          exact evT hr a1
        · refine evSucc (fun k => by rw [spec_l06Reduced.l1]) ?_
          refine evF (by omega) ?_
          refine evSucc (fun k => by rw [spec_l06Reduced.l0]) ?_
          rw [w5, w6]
          exact evT hr a2
      · refine ⟨acc, ?_, ?_, by rw [h4, show n - 1 = r + 1 by omega]; omega, h5⟩
        · refine evSucc (fun k => by rw [impl_reduced.l1]) ?_
          refine evF (by omega) ?_
          refine evSucc (fun k => by rw [impl_reduced.l0]) ?_
          rw [w5]
          exact evF hr (evS _)
        · refine evSucc (fun k => by rw [spec_l06Reduced.l1]) ?_
          refine evF (by omega) ?_
          refine evSucc (fun k => by rw [spec_l06Reduced.l0]) ?_
          rw [w5, w6]
          exact evF hr (evS _)

theorem reduced_both (n : Int) (hn : 2 ≤ n) (hn8 : n ≤ 8) (l : List Int) (hl : (l.length : Int) = tri n) (h12 : okCells l) :
    ∃ R, Ev (fun k => impl_reduced.f k n l) R ∧ Ev (fun k => spec_l06Reduced.f k n l) R ∧ (R.length : Int) = tri (n - 1) ∧ okCells R := by
  obtain ⟨R, a1, a2, a3⟩ := red_loop n hn hn8 l hl h12 (tri (n - 1) + (n - 1)).toNat 0 0 [] (by omega) (by omega) (by omega) (by omega) (by decide +kernel) (fun x hx => by simp at hx)
    (by have := tri_mono 0 (n - 1) (by omega) (by omega) (by omega); have e : tri 0 = 0 := by decide +kernel
        omega)
  have w6 : wrap64 (n - 1) = n - 1 := wrap_in (by omega) (by omega)
  have w0 : wrap64 (0 + 1) = 0 + 1 := by decide +kernel
  refine ⟨R, ?_, ?_, a3⟩
  · unfold impl_reduced.f
    refine evSucc (fun k => by rw [impl_reduced.l0]) ?_
    rw [w6, w0]
    exact evT (by omega) a1
  · unfold spec_l06Reduced.f
    refine evSucc (fun k => by rw [spec_l06Reduced.l0]) ?_
    rw [w6]
    exact evT (by omega) a2

/-- The code of a triangle. -/
def triCode (n least : Int) (l : List Int) : Int := if least ≤ n ∧ n ≤ 8 then if (l.length : Int) = wrap64 (Int.tdiv (wrap64 (n * wrap64 (n + 1))) 2) ∧ l.all (fun x => decide (1 ≤ x ∧ x ≤ 2)) = true then 0 else 1 else 2
theorem anyF_all (q : Int → Bool) (p : Int → Option Bool) (h : ∀ x, p x = some (!q x)) (l : List Int) : anyF p l = some (!l.all q) := by
  induction l with
  | nil => rfl
  | cons x l ih =>
    simp only [anyF, h, Option.bind_some, List.all_cons, ih]
    cases q x <;> simp
theorem first_two (b c : Bool) (x y : Int) : Ev (fun k => impl_first.f k [⟨b, x⟩, ⟨c, y⟩]) (if b = true then if c = true then 0 else y else x) := by
  unfold impl_first.f
  refine evSucc (fun k => by rw [impl_first.l0]) ?_
  refine evT (by simp) (evT (by omega) (evT (by simp) ?_))
  cases b with
  | false => exact evF (by simp [rd_T63]) (evS _)
  | true =>
    refine evT (by simp [rd_T63]) ?_
    rw [show wrap64 (0 + 1) = 1 by decide +kernel]
    refine evSucc (fun k => by rw [impl_first.l0]) ?_
    refine evT (by simp) (evT (by omega) (evT (by simp) ?_))
    cases c with
    | false => exact evF (by simp [rd_T63]) (evS _)
    | true =>
      refine evT (by simp [rd_T63]) ?_
      rw [show wrap64 (1 + 1) = 2 by decide +kernel]
      exact evE (r := (0 : Int)) (by simp) (evSucc (fun k => by rw [impl_first.l0]) (evF (by simp) (evS _)))
theorem triCode_impl (n least : Int) (l : List Int) : Ev (fun k => impl_triangleCode.f k n least l) (triCode n least l) := by
  unfold impl_triangleCode.f impl_size_int64.f
  have hc : cf_triangle.f l = some (!l.all fun x => decide (1 ≤ x ∧ x ≤ 2)) := anyF_all _ _ (fun x => by unfold impl_triangleCode_1.f; rw [within_eq]; rfl) l
  simp only [within_eq, hc, Option.bind_some]
  unfold triCode
  by_cases h2 : (l.length : Int) = wrap64 (Int.tdiv (wrap64 (n * wrap64 (n + 1))) 2)
  · refine evT h2 (evB (first_two _ _ _ _) (evE ?_ (evS _)))
    simp only [h2, true_and]
    cases l.all (fun x => decide (1 ≤ x ∧ x ≤ 2)) <;> by_cases h1 : least ≤ n ∧ n ≤ 8 <;> simp [h1]
  · refine evF h2 (evB (first_two _ _ _ _) (evE ?_ (evS _)))
    simp only [h2, false_and]
    by_cases h1 : least ≤ n ∧ n ≤ 8 <;> simp [h1]
theorem triCells_spec (l : List Int) (hl : l.length ≤ 4000000000000000000) (d : Nat) : ∀ i : Int, 0 ≤ i → i + d = l.length → Ev (fun k => spec_l06Triangle.l0 k l i) (if (l.drop i.toNat).all (fun x => decide (1 ≤ x ∧ x ≤ 2)) = true then 0 else 1) := by
  induction d with
  | zero =>
    intro i h0 hd
    refine evSucc (fun k => by rw [spec_l06Triangle.l0]) ?_
    refine evF (by omega) (evE ?_ (evS _))
    rw [List.drop_eq_nil_of_le (by omega)]
    rfl
  | succ d ih =>
    intro i h0 hd
    refine evSucc (fun k => by rw [spec_l06Triangle.l0]) ?_
    refine evT (by omega) (evT h0 (evG (l01In_eq _ _ _) ?_))
    have hlt : i.toNat < l.length := by omega
    have e : rd l i = l[i.toNat] := by simp [rd, List.getD_eq_getElem?_getD, hlt]
    rw [List.drop_eq_getElem_cons hlt, List.all_cons, e]
    by_cases hx : 1 ≤ l[i.toNat] ∧ l[i.toNat] ≤ 2
    · refine evT (by simpa using hx) ?_
      rw [wrap_in (by omega) (by omega)]
      refine evE ?_ (ih (i + 1) (by omega) (by omega))
      rw [show (i + 1).toNat = i.toNat + 1 by omega]
      simp [hx]
    · refine evF (by simpa using hx) (evE ?_ (evS _))
      simp [hx]
theorem triCode_spec (n least : Int) (l : List Int) (hl : l.length ≤ 4000000000000000000) : Ev (fun k => spec_l06Triangle.f k n least l) (triCode n least l) := by
  unfold spec_l06Triangle.f
  simp only [l01In_eq, Option.bind_some]
  unfold triCode
  by_cases h1 : least ≤ n ∧ n ≤ 8
  · refine evT (by simpa using h1) ?_
    rw [if_pos h1]
    by_cases h2 : (l.length : Int) = wrap64 (Int.tdiv (wrap64 (n * wrap64 (n + 1))) 2)
    · refine evT h2 (evE ?_ (triCells_spec l hl l.length 0 (by omega) (by omega)))
      simp [h2]
    · refine evF h2 (evE ?_ (evS _))
      simp [h2]
  · refine evF (by simpa using h1) (evE ?_ (evS _))
    rw [if_neg h1]
theorem triCode_zero {n least : Int} {l : List Int} (h0 : 1 ≤ least) (h : triCode n least l = 0) : least ≤ n ∧ n ≤ 8 ∧ (l.length : Int) = tri n ∧ okCells l := by
  unfold triCode at h
  split at h
  · rename_i h1
    split at h
    · rename_i h2
      refine ⟨h1.1, h1.2, by rw [h2.1, (tri_facts n (by omega) h1.2).1], fun x hx => ?_⟩
      have := List.all_eq_true.1 h2.2 x hx
      simp at this
      omega
    · omega
  · omega
end Go.Proofs.Ytnecgdlhkbbpgaa.B
