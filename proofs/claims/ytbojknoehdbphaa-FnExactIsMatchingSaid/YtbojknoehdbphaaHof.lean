/-
  Plain lemmas on 'Ev' (with enough rounds the printed function answers so) and on the laws' own helpers for lists of numbers: equality. No conditions beyond lengths.
-/
import Derived.Test.YtbojknoehdbphaaQ5

namespace Go.Proofs.Ytbojknoehdbphaa.B
open Go.RowKit Go.Proofs.Ytbojknoehdbphaa.Q Go.Proofs.YtbojknoehdbphaaW.PrintWords Go.Proofs.YtbojknoehdbphaaW.PrintLast

theorem evS {α : Type} (r : α) : Ev (fun _ => some r) r := ⟨0, fun _ _ => rfl⟩
theorem evE {α : Type} {g : Nat → Option α} {r r' : α} (h : r = r') (k : Ev g r) : Ev g r' := h ▸ k
theorem evC {α : Type} {o : Option α} {r : α} (h : o = some r) : Ev (fun _ => o) r := ⟨0, fun _ _ => h⟩
theorem evT {α : Type} {c : Prop} [Decidable c] {g f : Nat → Option α} {r : α} (h : c) (k : Ev g r) : Ev (fun n => if c then g n else f n) r := by
  obtain ⟨K, hK⟩ := k
  exact ⟨K, fun n hn => (if_pos h).trans (hK n hn)⟩
theorem evF {α : Type} {c : Prop} [Decidable c] {g f : Nat → Option α} {r : α} (h : ¬ c) (k : Ev f r) : Ev (fun n => if c then g n else f n) r := by
  obtain ⟨K, hK⟩ := k
  exact ⟨K, fun n hn => (if_neg h).trans (hK n hn)⟩
theorem evB {α β : Type} {g : Nat → Option α} {f : Nat → α → Option β} {a : α} {r : β} (h : Ev g a) (k : Ev (fun n => f n a) r) : Ev (fun n => (g n).bind (f n)) r := Ev.bind h k
/-- A bind whose first part is known. -/
theorem evG {α β : Type} {o : Option α} {f : Nat → α → Option β} {a : α} {r : β} (h : o = some a) (k : Ev (fun n => f n a) r) : Ev (fun n => o.bind (f n)) r := by
  subst h
  exact k
theorem evSucc {α : Type} {g f : Nat → Option α} {r : α} (h : ∀ k, g (k + 1) = f k) (k : Ev f r) : Ev g r := Ev.step h k
theorem wrap_in {x : Int} (h0 : -9223372036854775808 ≤ x) (h1 : x ≤ 9223372036854775807) : wrap64 x = x := by
  unfold wrap64
  omega

theorem eqInts_l (l : List Int) (hl : l.length ≤ 4000000000000000000) (d : Nat) : ∀ i : Int, 0 ≤ i → i + d = l.length → Ev (fun k => laws_eqInt64S.l0 k l l i) true := by
  induction d with
  | zero =>
    intro i h0 hd
    refine evSucc (fun k => by rw [laws_eqInt64S.l0]) ?_
    exact evF (by omega) (evS _)
  | succ d ih =>
    intro i h0 hd
    refine evSucc (fun k => by rw [laws_eqInt64S.l0]) ?_
    refine evT (by omega) (evT h0 (evT (by omega) (evT (by rfl) ?_)))
    rw [wrap_in (by omega) (by omega)]
    exact ih (i + 1) (by omega) (by omega)
theorem eqInts (l : List Int) (hl : l.length ≤ 4000000000000000000) : Ev (fun k => laws_eqInt64S.f k l l) true := by
  unfold laws_eqInt64S.f
  exact evT (by rfl) (eqInts_l l hl l.length 0 (by omega) (by omega))

theorem set_mid (p : List Int) (x y : Int) (q : List Int) : (p ++ x :: q).set p.length y = p ++ y :: q := by simp
end Go.Proofs.Ytbojknoehdbphaa.B
