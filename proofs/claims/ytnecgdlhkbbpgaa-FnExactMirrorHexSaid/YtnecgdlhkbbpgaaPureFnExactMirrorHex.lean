/-
  The pure statement of the law FnExactMirrorHex: program and reference mirror a board alike, the argument stays as it was, and the marks hold, whatever the argument is.
-/
import Derived.Test.YtnecgdlhkbbpgaaQ22
import Derived.Test.YtnecgdlhkbbpgaaQ14
import Derived.Test.YtnecgdlhkbbpgaaIsHexSame
namespace Go.Proofs.Ytnecgdlhkbbpgaa.Pure
open Go.RowKit Go.Proofs.Ytnecgdlhkbbpgaa.Q Go.Proofs.YtnecgdlhkbbpgaaW.PrintWords Go.Proofs.YtnecgdlhkbbpgaaW.PrintLast Go.Proofs.Ytnecgdlhkbbpgaa.B

def swap3 (v : Int) : Int := if v = 0 then 0 else if v = 1 then 2 else 1
def mir (n : Nat) (l : List Int) (i : Nat) : List Int := (List.range i).map fun j => swap3 (l.getD ((j % n) * n + j / n) 0)
theorem mir_len (n : Nat) (l : List Int) (i : Nat) : (mir n l i).length = i := by simp [mir]
theorem mir_succ (n : Nat) (l : List Int) (i : Nat) : mir n l (i + 1) = mir n l i ++ [swap3 (l.getD ((i % n) * n + i / n) 0)] := by simp [mir, List.range_succ]
theorem idx_lt (n i : Nat) (h1 : 1 ≤ n) (h8 : n ≤ 8) (hi : i < n * n) : (i % n) * n + i / n < n * n ∧ i / n < n := by
  have : n = 1 ∨ n = 2 ∨ n = 3 ∨ n = 4 ∨ n = 5 ∨ n = 6 ∨ n = 7 ∨ n = 8 := by omega
  rcases this with rfl | rfl | rfl | rfl | rfl | rfl | rfl | rfl <;> omega
theorem idx_rc (n r c : Nat) (h8 : n ≤ 8) (hc : c < n) : (n * r + c) % n = c ∧ (n * r + c) / n = r := by
  have : n = 1 ∨ n = 2 ∨ n = 3 ∨ n = 4 ∨ n = 5 ∨ n = 6 ∨ n = 7 ∨ n = 8 := by omega
  rcases this with rfl | rfl | rfl | rfl | rfl | rfl | rfl | rfl <;> omega
theorem sq_le (n : Nat) (h8 : n ≤ 8) : n * n ≤ 64 := by
  have : n = 0 ∨ n = 1 ∨ n = 2 ∨ n = 3 ∨ n = 4 ∨ n = 5 ∨ n = 6 ∨ n = 7 ∨ n = 8 := by omega
  rcases this with rfl | rfl | rfl | rfl | rfl | rfl | rfl | rfl | rfl <;> decide
theorem rd_nat (l : List Int) (i : Nat) : rd l (i : Int) = l.getD i 0 := by simp [rd]

theorem wrap2 (q u : Nat) (h : q + u ≤ 100) : wrap64 (wrap64 (q : Int) + wrap64 (u : Int)) = ((q + u : Nat) : Int) := by
  rw [wrap_in (x := (q : Int)) (by omega) (by omega), wrap_in (x := (u : Int)) (by omega) (by omega), wrap_in (by omega) (by omega)]
  omega
theorem wrap1 (q u : Nat) (h : q + u ≤ 100) : wrap64 (wrap64 (q : Int) + (u : Int)) = ((q + u : Nat) : Int) := by
  rw [wrap_in (x := (q : Int)) (by omega) (by omega), wrap_in (by omega) (by omega)]
  omega

theorem mirror_impl (n : Nat) (h1 : 1 ≤ n) (h8 : n ≤ 8) (l : List Int) (hl : l.length = n * n) (h012 : ∀ x ∈ l, 0 ≤ x ∧ x ≤ 2) (d : Nat) : ∀ i : Nat, i + d = n * n →
    Ev (fun k => impl_MirrorHex.l0 k ((n * n : Nat) : Int) (i : Int) (n : Int) l (n : Int) (mir n l i)) ((n : Int), mir n l (n * n), 0) := by
  have hsq := sq_le n h8
  induction d with
  | zero =>
    intro i hi
    refine evSucc (fun k => by rw [impl_MirrorHex.l0]) ?_
    refine evF (by omega) ?_
    rw [show i = n * n by omega]
    exact evS _
  | succ d ih =>
    intro i hi
    obtain ⟨hx, hdn⟩ := idx_lt n i h1 h8 (by omega)
    have hmod : i % n < n := Nat.mod_lt _ (by omega)
    have e : wrap64 (wrap64 (Int.tmod (i : Int) (n : Int) * (n : Int)) + wrap64 (Int.tdiv (i : Int) (n : Int))) = (((i % n) * n + i / n : Nat) : Int) := by
      have e1 : Int.tmod (i : Int) (n : Int) = ((i % n : Nat) : Int) := rfl
      have e2 : Int.tdiv (i : Int) (n : Int) = ((i / n : Nat) : Int) := rfl
      have e3 : ((i % n : Nat) : Int) * (n : Int) = (((i % n) * n : Nat) : Int) := by push_cast; rfl
      rw [e1, e2, e3]
      exact wrap2 _ _ (by omega)
    have hms := mir_succ n l i
    generalize (i % n) * n + i / n = j at hx e hms
    generalize hN : n * n = N at *
    refine evSucc (fun k => by rw [impl_MirrorHex.l0]) ?_
    simp only [e]
    refine evT (by omega) (evF (by omega) (evT (by omega) (evT (by omega) (evT (by rw [mir_len]; omega) ?_))))
    rw [wrap_in (by omega) (by omega), rd_nat]
    have hmem := h012 _ (rd_mem l (j : Int) (by omega) (by omega))
    rw [rd_nat] at hmem
    have e5 : Int.tmod (wrap64 (3 - l.getD j 0)) 3 = swap3 (l.getD j 0) := by
      generalize l.getD j 0 = v at hmem
      have : v = 0 ∨ v = 1 ∨ v = 2 := by omega
      rcases this with rfl | rfl | rfl <;> decide +kernel
    rw [e5, ← hms]
    exact ih (i + 1) (by omega)

theorem arith1 (N M n r c d : Nat) (_ : M + n ≤ N) (hc : c < n) (hd : N - (M + c) + (n - r) = d + 1) : N - (M + (c + 1)) + (n - r) = d ∧ M + c < N := by omega
theorem arith2 (N M n r d : Nat) (_ : M + n ≤ N) (hr : r < n) (hd : N - (M + n) + (n - r) = d + 1) : N - (M + n) + (n - (r + 1)) = d := by omega
theorem mirror_spec (n : Nat) (h1 : 1 ≤ n) (h8 : n ≤ 8) (l : List Int) (hl : l.length = n * n) (h012 : ∀ x ∈ l, 0 ≤ x ∧ x ≤ 2) (d : Nat) : ∀ r c : Nat, r < n → c ≤ n → (n * n - (n * r + c)) + (n - r) = d →
    Ev (fun k => spec_MirrorHex.l1 k (r : Int) (c : Int) (n : Int) l (n : Int) (mir n l (n * r + c))) ((n : Int), mir n l (n * n), 0) := by
  have hsq := sq_le n h8
  induction d with
  | zero => intro r c hr hc hd; exact absurd hd (by have : 0 < n - r := by omega
                                                    generalize n * n - (n * r + c) = z
                                                    omega)
  | succ d ih =>
    intro r c hr hc hd
    have hrn : n * r + n ≤ n * n := by
      have := Nat.mul_le_mul_left n (show r + 1 ≤ n by omega)
      rw [Nat.mul_add, Nat.mul_one] at this
      exact this
    refine evSucc (fun k => by rw [spec_MirrorHex.l1]) ?_
    by_cases hcn : c < n
    · obtain ⟨hm, hdv⟩ := idx_rc n r c h8 hcn
      obtain ⟨q1, q2⟩ := arith1 (n * n) (n * r) n r c d hrn hcn hd
      obtain ⟨hx, _⟩ := idx_lt n (n * r + c) h1 h8 q2
      rw [hm, hdv] at hx
      have e3 : (n : Int) * (c : Int) = ((c * n : Nat) : Int) := by rw [Int.mul_comm]; push_cast; rfl
      have IH := ih r (c + 1) hr hcn q1
      rw [← Nat.add_assoc, mir_succ, hm, hdv] at IH
      have hlen := mir_len n l (n * r + c)
      rw [e3]
      clear hd ih hrn q1 e3 hm hdv
      generalize mir n l (n * r + c) = P at *
      generalize mir n l (n * n) = R at *
      generalize n * r + c = t at *
      generalize n * n = N at *
      generalize c * n = M at *
      have e : wrap64 (wrap64 (M : Int) + (r : Int)) = ((M + r : Nat) : Int) := wrap1 _ _ (by omega)
      simp only [e]
      generalize M + r = j at *
      have hmem := h012 _ (rd_mem l (j : Int) (by omega) (by omega))
      rw [rd_nat] at hmem ⊢
      refine evT (by omega) (evG (by rfl) (evT (by omega) (evT (by omega) (evT hmem.1 (evT (by simp only [List.length_cons, List.length_nil]; omega) (evT (by omega) ?_))))))
      have e5 : rd [0, 2, 1] (l.getD j 0) = swap3 (l.getD j 0) := by
        generalize l.getD j 0 = v at hmem
        have : v = 0 ∨ v = 1 ∨ v = 2 := by omega
        rcases this with rfl | rfl | rfl <;> decide +kernel
      rw [e5, wrap_in (by omega) (by omega)]
      exact IH
    · obtain rfl : c = n := by omega
      refine evF (by omega) ?_
      rw [wrap_in (by omega) (by omega)]
      refine evSucc (fun k => by rw [spec_MirrorHex.l0]) ?_
      have e7 : c * r + c = c * (r + 1) + 0 := by rw [Nat.mul_add, Nat.mul_one]; rfl
      by_cases hr1 : r + 1 < c
      · refine evT (by omega) ?_
        have q := arith2 (c * c) (c * r) c r d hrn hr hd
        rw [e7] at q ⊢
        exact ih (r + 1) 0 hr1 (by omega) q
      · refine evF (by omega) ?_
        rw [show c * r + c = c * c by rw [e7, show r + 1 = c by omega]; rfl]
        exact evS _

theorem mirror_both (a : Int) (l : List Int) (hl : l.length ≤ 1048576) : ∃ (b : Int) (R : List Int) (c : Int), R.length ≤ 64 ∧ Ev (fun k => spec_MirrorHex.f k a l) (b, R, c) ∧ Ev (fun k => impl_MirrorHex.f k a l) (b, R, c) := by
  unfold spec_MirrorHex.f impl_MirrorHex.f
  cases hb : isHexB a l with
  | false => exact ⟨0, [], 1, by simp, evB (l06Is_spec a l (by omega)) (evF (by rw [hb]; simp) (evS _)), evG (isHex_impl a l) (evF (by rw [hb]; simp) (evS _))⟩
  | true =>
    have h := hb
    unfold isHexB at h
    simp only [Bool.and_eq_true, decide_eq_true_eq, List.all_eq_true] at h
    obtain ⟨⟨⟨h1, h8⟩, hn⟩, h012⟩ := h
    obtain ⟨n, rfl⟩ := Int.eq_ofNat_of_zero_le (show 0 ≤ a by omega)
    have hsq := sq_le n (by omega)
    have hcast : (n : Int) * (n : Int) = ((n * n : Nat) : Int) := by push_cast; rfl
    rw [hcast, wrap_in (by omega) (by omega)] at hn
    refine ⟨(n : Int), mir n l (n * n), 0, by rw [mir_len]; omega, evB (l06Is_spec _ l (by omega)) (evT hb ?_), evG (isHex_impl _ l) (evT hb (evG (by unfold impl_size_int64.f; rfl) ?_))⟩
    · refine evSucc (fun k => by rw [spec_MirrorHex.l0]) ?_
      refine evT (by omega) ?_
      exact mirror_spec n (by omega) (by omega) l (by omega) h012 _ 0 0 (by omega) (by omega) rfl
    · rw [hn]
      exact mirror_impl n (by omega) (by omega) l (by omega) h012 (n * n) 0 (by omega)
theorem markHex (a : Int) (l : List Int) (m : Int) (hm : 0 ≤ m) (hl : m + l.length ≤ 4000000000000000000) : Ev (fun k => laws_markHex.f k a l m) (m + l.length, marks m l.length) := by
  unfold laws_markHex.f
  exact evB (markInts l m hm hl) (evS _)
theorem heldHex (a : Int) (n : Nat) (m : Int) (hm : 0 ≤ m) (hl : m + n ≤ 4000000000000000000) : Ev (fun k => laws_heldHex.f k a (marks m n) m) (m + n) := by
  unfold laws_heldHex.f
  exact evB (heldInts n m hm hl) (evF (by omega) (evS _))

theorem FnExactMirrorHex (a : Int) (l : List Int) (_ : (Lit.int .i64 a).wf = true) (_ : l.length ≤ maxLen) (_ : ∀ x ∈ l, (Lit.int .i64 x).wf = true) : Ev (fun k => laws_FnExactMirrorHex.f k a l) true := by
  unfold laws_FnExactMirrorHex.f
  by_cases hl : l.length ≤ 1048576
  · obtain ⟨b, R, c, hR, hs, hi⟩ := mirror_both a l hl
    refine evG (szHex_small a l hl) (evF (by omega) ?_)
    refine evB (toHex a l hl) (evB hs (evB (toHex a l hl) (evB hi (evB (eqHex b R (by omega)) (evT (by rfl) ?_)))))
    refine evSucc (fun k => by rw [laws_FnExactMirrorHex.j0]) ?_
    refine evF (by simp) (evB (toHex a l hl) (evB (eqHex a l (by omega)) (evT (by rfl) ?_)))
    refine evB (markHex a l 1 (by omega) (by omega)) (evF (by simp only []; omega) (evB (eqHex b R (by omega)) (evT (by rfl) ?_)))
    refine evSucc (fun k => by rw [laws_FnExactMirrorHex.j1]) ?_
    refine evF (by simp) (evB (markHex b R 1 (by omega) (by omega)) (evB (heldHex b R.length 1 (by omega) (by omega)) (evF (by omega) (evT (by rfl) ?_))))
    refine evB (toHex a l hl) (evB hi (evB (eqHex b R (by omega)) (evT (by rfl) ?_)))
    refine evSucc (fun k => by rw [laws_FnExactMirrorHex.j2]) ?_
    exact evF (by simp) (evB (heldHex b R.length 1 (by omega) (by omega)) (evF (by omega) (evT (by rfl) (evS _))))
  · exact evG (szHex_large a l (by omega) (by unfold maxLen at *; omega)) (evT (by omega) (evS _))
end Go.Proofs.Ytnecgdlhkbbpgaa.Pure
