/-
  The reference's and the program's lists of neighbours of a cell of a hex board are the same, for sides 1 to 8; reckoned by the kernel.
-/
import Derived.Test.YtnecgdlhkbbpgaaQ10
import Derived.Test.YtnecgdlhkbbpgaaInEq
import Derived.Test.YtnecgdlhkbbpgaaEvBase
namespace Go.Proofs.Ytnecgdlhkbbpgaa.B
open Go.RowKit Go.Proofs.Ytnecgdlhkbbpgaa.Q Go.Proofs.YtnecgdlhkbbpgaaW.PrintWords Go.Proofs.YtnecgdlhkbbpgaaW.PrintLast

def nearOk (n c : Nat) : Bool := match spec_l06Near.f 7 n c with
  | some l => decide (impl_near.f 7 n c = some l) && decide (l.length ≤ 6) && l.all fun x => decide (0 ≤ x) && decide (x < (n * n : Nat))
  | none => false
theorem near_all : ((List.range 9).all fun n => n == 0 || (List.range (n * n)).all fun c => nearOk n c) = true := by decide +kernel
theorem nearOk_of (n c : Nat) (h1 : 1 ≤ n) (h2 : n ≤ 8) (h3 : c < n * n) : nearOk n c = true := by
  have h := List.all_eq_true.1 near_all n (List.mem_range.2 (by omega))
  rcases Bool.or_eq_true _ _ ▸ h with h | h
  · simp at h
    omega
  · exact List.all_eq_true.1 h c (List.mem_range.2 h3)
/-- The neighbours of a cell. -/
def nearL (n c : Int) : List Int := (spec_l06Near.f 7 n c).getD []
theorem near_facts (n c : Int) (h1 : 1 ≤ n) (h2 : n ≤ 8) (h3 : 0 ≤ c) (h4 : c < n * n) :
    spec_l06Near.f 7 n c = some (nearL n c) ∧ impl_near.f 7 n c = some (nearL n c) ∧ (nearL n c).length ≤ 6 ∧ ∀ x ∈ nearL n c, 0 ≤ x ∧ x < n * n := by
  obtain ⟨n, rfl⟩ := Int.eq_ofNat_of_zero_le (show 0 ≤ n by omega)
  obtain ⟨c, rfl⟩ := Int.eq_ofNat_of_zero_le h3
  have h := nearOk_of n c (by omega) (by omega) (by exact_mod_cast h4)
  unfold nearOk at h
  unfold nearL
  split at h
  · rename_i l hl
    simp only [Bool.and_eq_true, decide_eq_true_eq, List.all_eq_true] at h
    rw [hl]
    refine ⟨rfl, h.1.1, h.1.2, fun x hx => ?_⟩
    have := h.2 x hx
    exact ⟨this.1, by have := this.2; exact_mod_cast this⟩
  · cases h
theorem near_spec (n c : Int) (h1 : 1 ≤ n) (h2 : n ≤ 8) (h3 : 0 ≤ c) (h4 : c < n * n) : Ev (fun k => spec_l06Near.f k n c) (nearL n c) :=
  Ev.of (fun k => spec_l06Near.mono n c k) (near_facts n c h1 h2 h3 h4).1
theorem near_impl (n c : Int) (h1 : 1 ≤ n) (h2 : n ≤ 8) (h3 : 0 ≤ c) (h4 : c < n * n) : Ev (fun k => impl_near.f k n c) (nearL n c) :=
  Ev.of (fun k => impl_near.mono n c k) (near_facts n c h1 h2 h3 h4).2.1
end Go.Proofs.Ytnecgdlhkbbpgaa.B
