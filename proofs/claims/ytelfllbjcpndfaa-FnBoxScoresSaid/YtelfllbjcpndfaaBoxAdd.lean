/-
  Codes of positions, and drawing an edge: program and reference come to the same. No condition beyond those that are written.
-/
import Derived.Test.YtelfllbjcpndfaaQ2
import Derived.Test.YtelfllbjcpndfaaQ4
import Derived.Test.YtelfllbjcpndfaaFirstTwo
import Derived.Test.YtelfllbjcpndfaaBoxWith
namespace Go.Proofs.Ytelfllbjcpndfaa.B
open Go.RowKit Go.Proofs.Ytelfllbjcpndfaa.Q Go.Proofs.YtelfllbjcpndfaaW.PrintWords Go.Proofs.YtelfllbjcpndfaaW.PrintLast Go.Proofs.YtelfllbjcpndfaaW.PrintMore

theorem boxesCode (W H E n b : Int) : Ev (fun k => impl_boxesCode.f k W H E n b) (if isBoxB W H E = true then if 0 ≤ n ∧ n ≤ wrap64 (b - 1) then 0 else 2 else 1) := by
  unfold impl_boxesCode.f
  rw [isBox_impl, within_eq]
  refine evG rfl (evG rfl (evB (first_two _ _ _ _) (evE ?_ (evS _))))
  simp
theorem shl_one (e : Int) (h0 : 0 ≤ e) (h1 : e ≤ 24) : shl .i64 1 e = ((2 ^ e.toNat : Nat) : Int) := by
  have h : ∀ m : Fin 25, shl .i64 1 ((m.val : Nat) : Int) = ((2 ^ m.val : Nat) : Int) := by decide +kernel
  have := h ⟨e.toNat, by omega⟩
  simp only [Int.toNat_of_nonneg h0] at this
  exact this
theorem or_nat (a b : Nat) (ha : a < 2 ^ 62) (hb : b < 2 ^ 62) : Go.bits .or .i64 (a : Int) (b : Int) = ((a ||| b : Nat) : Int) :=
  (bits_nat .i64 62 (by decide) (fun n h0 h1 => by rw [show (2 : Int) ^ 62 = 4611686018427387904 by decide] at h1; rw [IntKind.wrap_i64]; omega) a b ha hb).2
theorem and_nat (a b : Nat) (ha : a < 2 ^ 62) (hb : b < 2 ^ 62) : Go.bits .and .i64 (a : Int) (b : Int) = ((a &&& b : Nat) : Int) :=
  (bits_nat .i64 62 (by decide) (fun n h0 h1 => by rw [show (2 : Int) ^ 62 = 4611686018427387904 by decide] at h1; rw [IntKind.wrap_i64]; omega) a b ha hb).1
/-- The set with one edge more. -/
def addE (E e : Int) : Int := Go.bits .or .i64 E (shl .i64 1 e)
theorem addE_nat (E : Nat) (e : Int) (h0 : 0 ≤ e) (h1 : e ≤ 24) (hE : E < 16777216) : addE (E : Int) e = ((E ||| 2 ^ e.toNat : Nat) : Int) := by
  unfold addE
  rw [shl_one e h0 h1]
  refine or_nat _ _ (by have : (16777216 : Nat) < 2 ^ 62 := by decide
                        omega) ?_
  exact Nat.pow_lt_pow_right (by decide) (by omega)
theorem addE_range (W H E e : Int) (h : isBoxB W H E = true) (h0 : 0 ≤ e) (h1 : e < cnt W H) : isBoxB W H (addE E e) = true := by
  obtain ⟨w, hh, e0, e1⟩ := (isBoxB_iff W H E).1 h
  obtain ⟨_, f2, f3, _, _, _, f7, f8, _⟩ := cnt_facts W H w.1 w.2 hh.1 hh.2
  refine (isBoxB_iff _ _ _).2 ⟨w, hh, ?_⟩
  obtain ⟨E, rfl⟩ := Int.eq_ofNat_of_zero_le e0
  rw [addE_nat E e h0 (by omega) (by omega)]
  refine ⟨by omega, ?_⟩
  have hc : cap W H = ((2 ^ (cnt W H).toNat : Nat) : Int) := by rw [f8]; push_cast; rfl
  rw [hc] at e1 ⊢
  have := Nat.or_lt_two_pow (x := E) (y := 2 ^ e.toNat) (n := (cnt W H).toNat) (by exact_mod_cast e1) (Nat.pow_lt_pow_right (by decide) (by omega))
  exact_mod_cast this
/-- How many boxes an edge makes taken. -/
def gain (W H E e : Int) : Int := (withL W H (addE E e) 4).length - (withL W H E 4).length
theorem gain_range (W H E e : Int) (h1 : 1 ≤ W ∧ W ≤ 3) (h2 : 1 ≤ H ∧ H ≤ 3) : -9 ≤ gain W H E e ∧ gain W H E e ≤ 9 := by
  have a := withL_len W H (addE E e) 4 h1 h2
  have b := withL_len W H E 4 h1 h2
  unfold gain
  omega
theorem add_impl (W H E e : Int) (h : isBoxB W H E = true) (h0 : 0 ≤ e) (h1 : e < cnt W H) : Ev (fun k => impl_Boxes_add.f k W H E e) (W, H, addE E e, gain W H E e) := by
  obtain ⟨w, hh, e0, e1⟩ := (isBoxB_iff W H E).1 h
  obtain ⟨_, _, e2, e3⟩ := (isBoxB_iff W H _).1 (addE_range W H E e h h0 h1)
  have f7 := (cnt_facts W H w.1 w.2 hh.1 hh.2).2.2.2.2.2.2.1
  have hg := gain_range W H E e w hh
  unfold impl_Boxes_add.f impl_size_int64_56.f
  rw [show Go.bits .or .i64 E (shl .i64 1 e) = addE E e from rfl]
  refine evT h0 (evB (with_impl W H _ 4 w hh e2 (by omega)) (evG rfl (evB (with_impl W H E 4 w hh e0 (by omega)) (evG rfl (evE ?_ (evS _))))))
  rw [show ((withL W H (addE E e) 4).length : Int) - (withL W H E 4).length = gain W H E e from rfl, wrap_in (by omega) (by omega)]
theorem move_spec (W H E e : Int) (h : isBoxB W H E = true) (h0 : 0 ≤ e) (h1 : e < cnt W H) : Ev (fun k => spec_l03Move.f k W H E e) (W, H, addE E e, gain W H E e) := by
  obtain ⟨w, hh, e0, e1⟩ := (isBoxB_iff W H E).1 h
  obtain ⟨_, _, e2, e3⟩ := (isBoxB_iff W H _).1 (addE_range W H E e h h0 h1)
  obtain ⟨_, _, f3, _, _, _, f7, _⟩ := cnt_facts W H w.1 w.2 hh.1 hh.2
  have hg := gain_range W H E e w hh
  unfold spec_l03Move.f
  rw [u64_in e h0 (by omega), show Go.bits .or .i64 E (shl .i64 1 e) = addE E e from rfl]
  refine evB (with_spec W H E 4 w hh e0 (by omega)) (evT h0 (evB (with_spec W H _ 4 w hh e2 (by omega)) (evE ?_ (evS _))))
  rw [show ((withL W H (addE E e) 4).length : Int) - (withL W H E 4).length = gain W H E e from rfl, wrap_in (by omega) (by omega)]
end Go.Proofs.Ytelfllbjcpndfaa.B
