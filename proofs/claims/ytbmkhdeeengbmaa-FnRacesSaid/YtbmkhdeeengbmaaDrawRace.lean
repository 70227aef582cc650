/-
  The reference's draws of boards with two sets end, whatever the code. Codes of bytes.
-/
import Derived.Test.YtbmkhdeeengbmaaDrawBoard
import Derived.Test.YtbmkhdeeengbmaaQ1
import Derived.Test.YtbmkhdeeengbmaaQ3
namespace Go.Proofs.Ytbmkhdeeengbmaa.B
open Go.RowKit Go.Proofs.Ytbmkhdeeengbmaa.Q Go.Proofs.YtbmkhdeeengbmaaW.PrintWords Go.Proofs.YtbmkhdeeengbmaaW.PrintLast Go.Proofs.YtbmkhdeeengbmaaW.PrintMore

theorem fillsTot_l (n : Int) (L : List Int) (s : Int) (hl : L.length ≤ 1000000) (d : Nat) : ∀ i : Int, 0 ≤ i → (L.length : Int) = i + d → Tot (fun k => spec_l07Fills.l0 k s i n L) (fun _ => True) := by
  induction d with
  | zero =>
    intro i h0 hd
    exact Tot.succ (fun k => by rw [spec_l07Fills.l0]) (Tot.no (by omega) (Tot.val trivial))
  | succ d ih =>
    intro i h0 hd
    refine Tot.succ (fun k => by rw [spec_l07Fills.l0]) (Tot.yes (by omega) (Tot.yes h0 (Tot.ite (fun _ => Tot.val trivial) (fun _ => ?_))))
    rw [wrap_in (x := i + 1) (by omega) (by omega)]
    exact ih (i + 1) (by omega) (by omega)
theorem fills_tot (n : Int) (L : List Int) (s : Int) (hl : L.length ≤ 1000000) : Tot (fun k => spec_l07Fills.f k n L s) (fun _ => True) := by
  unfold spec_l07Fills.f
  exact fillsTot_l n L s hl L.length 0 (by omega) (by omega)
theorem with_l (cl : List Int) (n : Int) (L : List Int) (hn : 1 ≤ n ∧ n ≤ 16) (hl : L.length ≤ 320) (d : Nat) : ∀ x7 x8 x9 a h : Int, (0 ≤ x7 ∧ x7 < 65536) → (0 ≤ x8 ∧ x8 < 65536) → x9 = d → d ≤ 100 → OkC cl a →
    Tot (fun k => spec_l07With.l0 k x7 x8 x9 cl a h n L) (fun v => v.2.1.length ≤ 321) := by
  induction d with
  | zero =>
    intro x7 x8 x9 a h h7 h8 hd _ hc
    refine Tot.succ (fun k => by rw [spec_l07With.l0]) (Tot.no (by omega) (Tot.bind (next_tot cl a h 20 hc) (fun v hv => Tot.ite (fun _ => ?_) (fun _ => Tot.ite (fun _ => ?_) (fun _ => ?_)))))
    · exact Tot.yes (u64_pos _) (Tot.bind (pick_tot cl _ _ _ (by simp) (by simp) hv.1) (fun u hu => Tot.bind (bad_tot cl _ _ n L hl hu.1) (fun t ht => Tot.val ht)))
    · exact Tot.yes (u64_pos _) (Tot.bind (pick_tot cl _ _ _ (by simp) (by simp) hv.1) (fun u hu => Tot.bind (bad_tot cl _ _ n L hl hu.1) (fun t ht => Tot.val ht)))
    · exact Tot.bind (bad_tot cl _ _ n L hl hv.1) (fun t ht => Tot.val ht)
  | succ d ih =>
    intro x7 x8 x9 a h h7 h8 hd hd2 hc
    refine Tot.succ (fun k => by rw [spec_l07With.l0]) (Tot.yes (by omega) (Tot.bind (next_tot cl a h n hc) (fun v hv => Tot.yes (u64_pos _) ?_)))
    obtain ⟨p1, p2⟩ := hv.2.1 (by omega)
    have g7 := or_small x7 v.1 h7 ⟨p1, by omega⟩
    have g8 := or_small x8 v.1 h8 ⟨p1, by omega⟩
    rw [wrap_in (x := x9 - 1) (by omega) (by omega)]
    have go : ∀ y7 y8 b g : Int, (0 ≤ y7 ∧ y7 < 65536) → (0 ≤ y8 ∧ y8 < 65536) → OkC cl b → Tot (fun k => spec_l07With.l0 k y7 y8 (x9 - 1) cl b g n L) (fun v => v.2.1.length ≤ 321) := fun y7 y8 b g e7 e8 hb => ih y7 y8 (x9 - 1) b g e7 e8 (by omega) (by omega) hb
    refine Tot.ite (fun _ => Tot.bind (ones_tot x7 h7) (fun _ _ => Tot.bind (ones_tot x8 h8) (fun _ _ => Tot.ite (fun _ => ?_) (fun _ => ?_)))) (fun _ => go _ _ _ _ h7 h8 hv.1)
    · exact Tot.bind (fills_tot n L _ (by omega)) (fun _ _ => Tot.ite (fun _ => Tot.bind (next_tot cl _ _ 5 hv.1) (fun u hu => Tot.ite (fun _ => go _ _ _ _ g7 h8 hu.1) (fun _ => go _ _ _ _ h7 h8 hu.1))) (fun _ => go _ _ _ _ g7 h8 hv.1))
    · exact Tot.bind (fills_tot n L _ (by omega)) (fun _ _ => Tot.ite (fun _ => Tot.bind (next_tot cl _ _ 5 hv.1) (fun u hu => Tot.ite (fun _ => go _ _ _ _ h7 g8 hu.1) (fun _ => go _ _ _ _ h7 h8 hu.1))) (fun _ => go _ _ _ _ h7 g8 hv.1))
theorem with_tot (cl : List Int) (hb : ∀ x ∈ cl, 0 ≤ x ∧ x ≤ 255) (hl : cl.length ≤ 4611686018427387904) : Tot (fun k => spec_l07With.f k cl) (fun v => v.2.1.length ≤ 321) := by
  unfold spec_l07With.f
  refine Tot.bind (from_tot cl hb hl) (fun s hs => ?_)
  rw [hs.1]
  refine Tot.bind (draw_tot cl _ _ hs.2) (fun v hv => Tot.bind (next_tot cl _ _ v.1 hv.2.2) (fun u hu => ?_))
  obtain ⟨p1, p2⟩ := hu.2.1 (by have := hv.1; omega)
  have := hv.1
  exact with_l cl v.1 v.2.1 hv.1 hv.2.1 u.1.toNat 0 0 u.1 _ _ (by omega) (by omega) (by omega) (by omega) hu.1
end Go.Proofs.Ytbmkhdeeengbmaa.B
