/-
  Plain lemmas: a choice among numbers by a condition that is told everywhere is a filter. No Go in them.
-/
import Derived.Test.YtelfllbjcpndfaaChosen
import Derived.Test.YtelfllbjcpndfaaHof
namespace Go.Proofs.Ytelfllbjcpndfaa.B
open Go.RowKit Go.Proofs.Ytelfllbjcpndfaa.Q Go.Proofs.YtelfllbjcpndfaaW.PrintWords Go.Proofs.YtelfllbjcpndfaaW.PrintLast Go.Proofs.YtelfllbjcpndfaaW.PrintMore

/-- The numbers i, i + 1, .. -/
def seg (i : Int) : Nat → List Int
  | 0 => []
  | d + 1 => i :: seg (i + 1) d
theorem seg_length (d : Nat) : ∀ i, (seg i d).length = d := by
  induction d with
  | zero => intro i; rfl
  | succ d ih => intro i; simp [seg, ih]
theorem mem_seg (d : Nat) : ∀ (i x : Int), x ∈ seg i d ↔ i ≤ x ∧ x < i + d := by
  induction d with
  | zero =>
    intro i x
    simp only [seg, List.not_mem_nil, false_iff]
    omega
  | succ d ih =>
    intro i x
    simp only [seg, List.mem_cons, ih]
    omega
theorem chooseP_total (p : Int → Option Bool) (q : Int → Bool) (d : Nat) : ∀ i : Int, (∀ x, i ≤ x → x < i + d → p x = some (q x)) → chooseP p d i = some ((seg i d).filter q) := by
  induction d with
  | zero => intro i h; rfl
  | succ d ih =>
    intro i h
    have e := ih (i + 1) (fun x h0 h1 => h x (by omega) (by omega))
    simp only [chooseP, h i (by omega) (by omega), e, Option.bind_some, seg, List.filter_cons]
theorem chooseP_ev (p : Nat → Int → Option Bool) (q : Int → Bool) (d : Nat) : ∀ i : Int, (∀ x, i ≤ x → x < i + d → Ev (fun k => p k x) (q x)) → Ev (fun k => chooseP (p k) d i) ((seg i d).filter q) := by
  induction d with
  | zero => intro i h; exact evS _
  | succ d ih =>
    intro i h
    have e := ih (i + 1) (fun x h0 h1 => h x (by omega) (by omega))
    simp only [chooseP, seg, List.filter_cons]
    exact evB (h i (by omega) (by omega)) (evB e (evS _))
theorem filter_length_le_seg (q : Int → Bool) (i : Int) (d : Nat) : ((seg i d).filter q).length ≤ d := by
  have := List.length_filter_le q (seg i d)
  rw [seg_length] at this
  exact this
theorem bit01 (x : Int) (h0 : 0 ≤ x) (h1 : x < 9223372036854775808) : Go.bits .and .i64 x 1 = x % 2 := by
  have h := bits_mask .i64 63 (by decide) (fun n h0 h1 => by rw [show (2 : Int) ^ 63 = 9223372036854775808 by decide] at h1; rw [IntKind.wrap_i64]; omega) 1 (by decide) x h0 (by rw [show (2 : Int) ^ 63 = 9223372036854775808 by decide]; omega)
  simpa using h
theorem shr_range (x e : Int) (h0 : 0 ≤ x) (h1 : x < 9223372036854775808) : 0 ≤ shr .i64 x e ∧ shr .i64 x e < 9223372036854775808 := by
  unfold shr
  have hp : (0 : Int) < 2 ^ min e.toNat IntKind.i64.bits := Int.pow_pos (by decide)
  refine ⟨Int.ediv_nonneg h0 (Int.le_of_lt hp), ?_⟩
  have := Int.ediv_le_self (2 ^ min e.toNat IntKind.i64.bits) h0
  omega
/-- A digit of a set of bits is 0 or 1. -/
theorem dig01 (x e : Int) (h0 : 0 ≤ x) (h1 : x < 9223372036854775808) : Go.bits .and .i64 (shr .i64 x e) 1 = 0 ∨ Go.bits .and .i64 (shr .i64 x e) 1 = 1 := by
  have := shr_range x e h0 h1
  rw [bit01 _ this.1 this.2]
  omega
theorem u64_in (x : Int) (h0 : 0 ≤ x) (h1 : x < 18446744073709551616) : IntKind.u64.wrap x = x := by
  simp [IntKind.wrap, IntKind.bits, IntKind.signed]
  omega
end Go.Proofs.Ytelfllbjcpndfaa.B
