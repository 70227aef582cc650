/-
  The reference's draws of boards end, whatever the code: few lines, at most 16 nodes ahead of what spoils them. Codes of bytes.
-/
import Derived.Test.YtbmkhdeeengbmaaDrawBase
import Derived.Test.YtbmkhdeeengbmaaBoard
import Derived.Test.YtbmkhdeeengbmaaQ1
import Derived.Test.YtbmkhdeeengbmaaQ2
import Derived.Test.YtbmkhdeeengbmaaQ4
namespace Go.Proofs.Ytbmkhdeeengbmaa.B
open Go.RowKit Go.Proofs.Ytbmkhdeeengbmaa.Q Go.Proofs.YtbmkhdeeengbmaaW.PrintWords Go.Proofs.YtbmkhdeeengbmaaW.PrintLast Go.Proofs.YtbmkhdeeengbmaaW.PrintMore

theorem in_val (a b c : Int) : ∃ v, spec_l01In.f a b c = some v := by
  unfold spec_l01In.f
  split <;> exact ⟨_, rfl⟩
def GP (A : Int) (v : Int × List Int) : Prop := v.1 = A ∧ v.2.length ≤ 300
theorem grid3 (x0 x1 x2 x8 x9 x10 x11 x12 A : Int) (l : List Int) (hx2 : x2 ≤ 8) (h10 : 0 ≤ x10 ∧ x10 < 4) (hl : l.length ≤ 1000) (hk : ∀ t, t.length ≤ l.length + 1 → Tot (fun k => spec_l07Grid.l2 k x0 x1 x2 x8 x9 (x10 + 1) A t) (GP A)) (d : Nat) :
    ∀ x13 x14 : Int, 0 ≤ x14 → x14 + d = x2 → Tot (fun k => spec_l07Grid.l3 k x0 x1 x2 x8 x9 x10 x11 x12 x13 x14 A l) (GP A) := by
  induction d with
  | zero =>
    intro x13 x14 h0 hd
    refine Tot.succ (fun k => by rw [spec_l07Grid.l3]) (Tot.no (by omega) (Tot.bind (put_tot l x13 (by omega)) (fun t ht => ?_)))
    rw [wrap_in (x := x10 + 1) (by omega) (by omega)]
    exact hk t ht.1
  | succ d ih =>
    intro x13 x14 h0 hd
    refine Tot.succ (fun k => by rw [spec_l07Grid.l3]) (Tot.yes (by omega) (Tot.yes (u64_pos _) ?_))
    rw [wrap_in (x := x14 + 1) (by omega) (by omega)]
    exact ih _ (x14 + 1) (by omega) (by omega)
theorem grid2 (x0 x1 x2 x8 x9 A : Int) (m : Nat) (hx2 : 0 ≤ x2 ∧ x2 ≤ 8) (hm : m + 4 ≤ 290) (hk : ∀ t : List Int, t.length ≤ m + 4 → Tot (fun k => spec_l07Grid.l1 k x0 x1 x2 x8 (wrap64 (x9 + 1)) A t) (GP A)) (d : Nat) :
    ∀ (x10 : Int) (l : List Int), 0 ≤ x10 → x10 + d = 4 → (l.length : Int) ≤ m + x10 → Tot (fun k => spec_l07Grid.l2 k x0 x1 x2 x8 x9 x10 A l) (GP A) := by
  induction d with
  | zero =>
    intro x10 l h0 hd hl
    exact Tot.succ (fun k => by rw [spec_l07Grid.l2]) (Tot.no (by omega) (hk l (by omega)))
  | succ d ih =>
    intro x10 l h0 hd hl
    have hj : ∀ (b : Bool) (x11 x12 : Int), Tot (fun k => spec_l07Grid.j3 k x0 x1 x2 x8 x9 x10 x11 x12 b A l) (GP A) := fun b x11 x12 => by
      refine Tot.succ (fun k => by rw [spec_l07Grid.j3]) (Tot.ite (fun _ => ?_) (fun _ => ?_))
      · rw [wrap_in (x := x10 + 1) (by omega) (by omega)]
        exact ih (x10 + 1) l (by omega) (by omega) (by omega)
      · exact grid3 x0 x1 x2 x8 x9 x10 x11 x12 A l hx2.2 ⟨h0, by omega⟩ (by omega) (fun t ht => ih (x10 + 1) t (by omega) (by omega) (by omega)) x2.toNat 0 0 (by omega) (by omega)
    refine Tot.succ (fun k => by rw [spec_l07Grid.l2]) (Tot.yes (by omega) (Tot.bind (Tot.val (P := fun v => v = [1, 0, 1, -1]) rfl) (fun v hv => ?_)))
    subst hv
    refine Tot.yes h0 (Tot.yes (by simp; omega) (Tot.bind (Tot.val (P := fun v => v = [0, 1, 1, 1]) rfl) (fun v hv => ?_)))
    subst hv
    obtain ⟨b1, e1⟩ := in_val (wrap64 (x9 + (wrap64 ((wrap64 (x2 - 1)) * (rd [1, 0, 1, -1] x10))))) 0 (wrap64 (x0 - 1))
    obtain ⟨b2, e2⟩ := in_val (wrap64 (x8 + (wrap64 ((wrap64 (x2 - 1)) * (rd [0, 1, 1, 1] x10))))) 0 (wrap64 (x1 - 1))
    refine Tot.yes (by simp; omega) (Tot.bind (Tot.const (P := fun _ => True) ⟨b1, e1, trivial⟩) (fun v _ => Tot.ite (fun _ => Tot.bind (Tot.const (P := fun _ => True) ⟨b2, e2, trivial⟩) (fun u _ => hj _ _ _)) (fun _ => hj _ _ _)))
theorem grid1 (x0 x1 x2 x8 A : Int) (m : Nat) (hx0 : x0 ≤ 8) (hx2 : 0 ≤ x2 ∧ x2 ≤ 8) (hm : m + 32 ≤ 290) (hk : ∀ t : List Int, t.length ≤ m + 32 → Tot (fun k => spec_l07Grid.l0 k x0 x1 x2 (wrap64 (x8 + 1)) A t) (GP A)) (d : Nat) :
    ∀ (x9 : Int) (l : List Int), 0 ≤ x9 → x9 + d = x0 → (l.length : Int) ≤ m + 4 * x9 → Tot (fun k => spec_l07Grid.l1 k x0 x1 x2 x8 x9 A l) (GP A) := by
  induction d with
  | zero =>
    intro x9 l h0 hd hl
    exact Tot.succ (fun k => by rw [spec_l07Grid.l1]) (Tot.no (by omega) (hk l (by omega)))
  | succ d ih =>
    intro x9 l h0 hd hl
    refine Tot.succ (fun k => by rw [spec_l07Grid.l1]) (Tot.yes (by omega) (grid2 x0 x1 x2 x8 x9 A (m + 4 * x9.toNat) hx2 (by omega) (fun t ht => ?_) 4 0 l (by omega) (by omega) (by omega)))
    rw [wrap_in (x := x9 + 1) (by omega) (by omega)]
    exact ih (x9 + 1) t (by omega) (by omega) (by omega)
theorem grid0 (x0 x1 x2 A : Int) (hx0 : 0 ≤ x0 ∧ x0 ≤ 8) (hx1 : x1 ≤ 8) (hx2 : 0 ≤ x2 ∧ x2 ≤ 8) (d : Nat) : ∀ (x8 : Int) (l : List Int), 0 ≤ x8 → x8 + d = x1 → (l.length : Int) ≤ 32 * x8 → Tot (fun k => spec_l07Grid.l0 k x0 x1 x2 x8 A l) (GP A) := by
  induction d with
  | zero =>
    intro x8 l h0 hd hl
    exact Tot.succ (fun k => by rw [spec_l07Grid.l0]) (Tot.no (by omega) (Tot.val ⟨rfl, by show l.length ≤ 300; omega⟩))
  | succ d ih =>
    intro x8 l h0 hd hl
    refine Tot.succ (fun k => by rw [spec_l07Grid.l0]) (Tot.yes (by omega) (grid1 x0 x1 x2 x8 A (32 * x8.toNat) hx0.2 hx2 (by omega) (fun t ht => ?_) x0.toNat 0 l (by omega) (by omega) (by omega)))
    rw [wrap_in (x := x8 + 1) (by omega) (by omega)]
    exact ih (x8 + 1) t (by omega) (by omega) (by omega)
theorem grid_tot (w h c : Int) (hw : 0 ≤ w ∧ w ≤ 8) (hh : 0 ≤ h ∧ h ≤ 8) (hc : 0 ≤ c ∧ c ≤ 8) : Tot (fun k => spec_l07Grid.f k w h c) (GP (wrap64 (w * h))) := by
  unfold spec_l07Grid.f
  exact grid0 w h c _ hw hh.2 hc h.toNat 0 [] (by omega) (by omega) (by simp)
theorem or_small (x p : Int) (hx : 0 ≤ x ∧ x < 65536) (hp : 0 ≤ p ∧ p < 16) : 0 ≤ Go.bits .or .i64 x (shl .i64 1 (IntKind.u64.wrap p)) ∧ Go.bits .or .i64 x (shl .i64 1 (IntKind.u64.wrap p)) < 65536 := by
  have k62 : (2 : Nat) ^ 62 = 4611686018427387904 := by decide
  have h16 : (2 : Nat) ^ p.toNat < 2 ^ 16 := Nat.pow_lt_pow_right (by decide) (by omega)
  have k16 : (2 : Nat) ^ 16 = 65536 := by decide
  obtain ⟨y, rfl⟩ := Int.eq_ofNat_of_zero_le hx.1
  rw [u64_in p hp.1 (by omega), shl_one p hp.1 (by omega), or_nat y _ (by omega) (by omega)]
  have := Nat.or_lt_two_pow (n := 16) (x := y) (y := 2 ^ p.toNat) (by omega) h16
  omega
theorem ones_tot (x : Int) (hx : 0 ≤ x ∧ x < 65536) : Tot (fun k => spec_l07Ones.f k x) (fun _ => True) := ⟨_, ones_eq x hx.1 (by omega), trivial⟩
/-- A board that is drawn, and the source. -/
def BP (cl : List Int) (n : Int) (v : Int × List Int × Int × Int) : Prop := v.1 = n ∧ v.2.1.length ≤ 320 ∧ OkC cl v.2.2.1
theorem of_l1 (cl : List Int) (n x6 A : Int) (l : List Int) (hn : 1 ≤ n ∧ n ≤ 16) (hl : l.length ≤ 310) (hk : ∀ (t : List Int) (a h : Int), t.length ≤ l.length + 1 → OkC cl a → Tot (fun k => spec_l07DrawOf.l0 k n (wrap64 (x6 - 1)) cl a h A t) (BP cl A)) (d : Nat) :
    ∀ x7 x8 a h : Int, (0 ≤ x7 ∧ x7 < 65536) → x8 = d → d ≤ 100 → OkC cl a → Tot (fun k => spec_l07DrawOf.l1 k n x6 x7 x8 cl a h A l) (BP cl A) := by
  induction d with
  | zero =>
    intro x7 x8 a h hx7 hd _ hc
    refine Tot.succ (fun k => by rw [spec_l07DrawOf.l1]) (Tot.no (by omega) (Tot.bind (ones_tot x7 hx7) (fun v _ => Tot.ite (fun _ => Tot.bind (put_tot l x7 (by omega)) (fun t ht => hk t a h ht.1 hc)) (fun _ => Tot.bind (next_tot cl a h 6 hc) (fun u hu => Tot.ite (fun _ => Tot.bind (put_tot l x7 (by omega)) (fun t ht => hk t _ _ ht.1 hu.1)) (fun _ => hk l _ _ (by omega) hu.1))))))
  | succ d ih =>
    intro x7 x8 a h hx7 hd hd2 hc
    refine Tot.succ (fun k => by rw [spec_l07DrawOf.l1]) (Tot.yes (by omega) (Tot.bind (next_tot cl a h n hc) (fun u hu => Tot.yes (u64_pos _) ?_)))
    rw [wrap_in (x := x8 - 1) (by omega) (by omega)]
    obtain ⟨h1, h2⟩ := hu.2.1 (by omega)
    exact ih _ (x8 - 1) _ _ (or_small x7 u.1 hx7 ⟨h1, by omega⟩) (by omega) (by omega) hu.1
theorem of_l0 (cl : List Int) (n A : Int) (hn : 1 ≤ n ∧ n ≤ 16) (d : Nat) : ∀ (x6 a h : Int) (l : List Int), x6 = d → l.length + d ≤ 300 → OkC cl a → Tot (fun k => spec_l07DrawOf.l0 k n x6 cl a h A l) (BP cl A) := by
  induction d with
  | zero =>
    intro x6 a h l hd hl hc
    exact Tot.succ (fun k => by rw [spec_l07DrawOf.l0]) (Tot.no (by omega) (Tot.val ⟨rfl, by show l.length ≤ 320; omega, hc⟩))
  | succ d ih =>
    intro x6 a h l hd hl hc
    refine Tot.succ (fun k => by rw [spec_l07DrawOf.l0]) (Tot.yes (by omega) (Tot.bind (next_tot cl a h 4 hc) (fun u hu => ?_)))
    obtain ⟨h1, h2⟩ := hu.2.1 (by omega)
    rw [wrap_in (x := 1 + u.1) (by omega) (by omega)]
    refine of_l1 cl n x6 A l hn (by omega) (fun t a2 hh ht hc2 => ?_) (1 + u.1).toNat 0 (1 + u.1) _ _ (by omega) (by omega) (by omega) hu.1
    rw [wrap_in (x := x6 - 1) (by omega) (by omega)]
    exact ih (x6 - 1) a2 hh t (by omega) (by omega) hc2
theorem of_tot (cl : List Int) (a h n : Int) (hn : 1 ≤ n ∧ n ≤ 16) (hc : OkC cl a) : Tot (fun k => spec_l07DrawOf.f k cl a h n) (BP cl n) := by
  unfold spec_l07DrawOf.f
  refine Tot.bind (pick_tot cl a h [3, 6, 10] (by simp) (by simp) hc) (fun v hv => Tot.bind (next_tot cl _ _ v.1 hv.1) (fun u hu => ?_))
  have hm : v.1 = 3 ∨ v.1 = 6 ∨ v.1 = 10 := by simpa using hv.2
  obtain ⟨h1, h2⟩ := hu.2.1 (by omega)
  exact of_l0 cl n n hn u.1.toNat u.1 _ _ [] (by omega) (by simp; omega) hu.1
/-- A board of at most 16 nodes. -/
def DP (cl : List Int) (v : Int × List Int × Int × Int) : Prop := (1 ≤ v.1 ∧ v.1 ≤ 16) ∧ v.2.1.length ≤ 320 ∧ OkC cl v.2.2.1
theorem small_prod (w h : Int) (hw : 1 ≤ w ∧ w ≤ 4) (hh : 1 ≤ h ∧ h ≤ 4) : 1 ≤ wrap64 (w * h) ∧ wrap64 (w * h) ≤ 16 := by
  have hd : ∀ a b : Fin 4, 1 ≤ wrap64 (((a.val : Nat) : Int) + 1) * (((b.val : Nat) : Int) + 1) ∧ wrap64 ((((a.val : Nat) : Int) + 1) * (((b.val : Nat) : Int) + 1)) ≤ 16 ∧ 1 ≤ wrap64 ((((a.val : Nat) : Int) + 1) * (((b.val : Nat) : Int) + 1)) := by decide +kernel
  have := hd ⟨(w - 1).toNat, by omega⟩ ⟨(h - 1).toNat, by omega⟩
  simp only at this
  rw [show ((((w - 1).toNat : Nat) : Int) + 1) = w by omega, show ((((h - 1).toNat : Nat) : Int) + 1) = h by omega] at this
  exact ⟨this.2.2, this.2.1⟩
theorem draw_tot (cl : List Int) (a h : Int) (hc : OkC cl a) : Tot (fun k => spec_l07Draw.f k cl a h) (DP cl) := by
  unfold spec_l07Draw.f
  refine Tot.bind (next_tot cl a h 4 hc) (fun v hv => Tot.ite (fun _ => ?_) (fun _ => Tot.ite (fun _ => ?_) (fun _ => Tot.ite (fun _ => ?_) (fun _ => ?_))))
  · refine Tot.bind (next_tot cl _ _ 4 hv.1) (fun v1 h1 => Tot.bind (next_tot cl _ _ 4 h1.1) (fun v2 h2 => Tot.bind (next_tot cl _ _ 4 h2.1) (fun v3 h3 => ?_)))
    obtain ⟨p1, p2⟩ := h1.2.1 (by omega)
    obtain ⟨p3, p4⟩ := h2.2.1 (by omega)
    obtain ⟨p5, p6⟩ := h3.2.1 (by omega)
    rw [wrap_in (x := 1 + v1.1) (by omega) (by omega), wrap_in (x := 1 + v2.1) (by omega) (by omega), wrap_in (x := 1 + v3.1) (by omega) (by omega)]
    refine Tot.bind (grid_tot (1 + v1.1) (1 + v2.1) (1 + v3.1) (by omega) (by omega) (by omega)) (fun g hg => Tot.val ⟨?_, ?_, h3.1⟩)
    · show 1 ≤ g.1 ∧ g.1 ≤ 16
      rw [hg.1]
      exact small_prod _ _ (by omega) (by omega)
    · show g.2.length ≤ 320
      have := hg.2
      omega
  · refine Tot.bind (pick_tot cl _ _ [2, 3] (by simp) (by simp) hv.1) (fun v1 h1 => Tot.bind (pick_tot cl _ _ [2, 3, 3] (by simp) (by simp) h1.1) (fun v2 h2 => ?_))
    have e1 : v1.1 = 2 ∨ v1.1 = 3 := by simpa using h1.2
    have e2 : v2.1 = 2 ∨ v2.1 = 3 := by simpa using h2.2
    refine Tot.bind (grid_tot 3 v1.1 v2.1 (by omega) (by omega) (by omega)) (fun g hg => Tot.val ⟨?_, ?_, h2.1⟩)
    · show 1 ≤ g.1 ∧ g.1 ≤ 16
      rw [hg.1]
      exact small_prod _ _ (by omega) (by omega)
    · show g.2.length ≤ 320
      have := hg.2
      omega
  · refine Tot.bind (next_tot cl _ _ 16 hv.1) (fun v1 h1 => ?_)
    obtain ⟨p1, p2⟩ := h1.2.1 (by omega)
    rw [wrap_in (x := 1 + v1.1) (by omega) (by omega)]
    refine Tot.bind (of_tot cl _ _ (1 + v1.1) (by omega) h1.1) (fun g hg => Tot.val ⟨?_, hg.2.1, hg.2.2⟩)
    show 1 ≤ g.1 ∧ g.1 ≤ 16
    rw [hg.1]
    omega
  · refine Tot.bind (next_tot cl _ _ 9 hv.1) (fun v1 h1 => ?_)
    obtain ⟨p1, p2⟩ := h1.2.1 (by omega)
    rw [wrap_in (x := 1 + v1.1) (by omega) (by omega)]
    refine Tot.bind (of_tot cl _ _ (1 + v1.1) (by omega) h1.1) (fun g hg => Tot.val ⟨?_, hg.2.1, hg.2.2⟩)
    show 1 ≤ g.1 ∧ g.1 ≤ 16
    rw [hg.1]
    omega
theorem bad_tot (cl : List Int) (a h n : Int) (l : List Int) (hl : l.length ≤ 320) (hc : OkC cl a) : Tot (fun _ => spec_l07Bad.f cl a h n l) (fun v => v.2.1.length ≤ 321) := by
  unfold spec_l07Bad.f
  refine Tot.bind (Tot.const (P := fun v => v = l) ⟨l, own_val l (by omega), rfl⟩) (fun t ht => ?_)
  subst ht
  refine Tot.bind (next_tot cl a h 40 hc) (fun v hv => Tot.ite (fun _ => Tot.bind (pick_tot cl _ _ _ (by simp) (by simp) hv.1) (fun u hu => Tot.val (by show t.length ≤ 321; omega))) (fun _ => Tot.ite (fun _ => Tot.bind (pick_tot cl _ _ _ (by simp) (by simp) hv.1) (fun u hu => Tot.yes (by omega) (Tot.val (by show (t ++ [u.1]).length ≤ 321; rw [List.length_append, List.length_singleton]; omega)))) (fun _ => Tot.val (by show t.length ≤ 321; omega))))
theorem spoil_tot (cl : List Int) (hb : ∀ x ∈ cl, 0 ≤ x ∧ x ≤ 255) (hl : cl.length ≤ 4611686018427387904) : Tot (fun k => spec_l07Spoil.f k cl) (fun v => v.2.length ≤ 321) := by
  unfold spec_l07Spoil.f
  refine Tot.bind (from_tot cl hb hl) (fun s hs => ?_)
  rw [hs.1]
  exact Tot.bind (draw_tot cl _ _ hs.2) (fun v hv => Tot.bind (bad_tot cl _ _ v.1 v.2.1 hv.2.1 hv.2.2) (fun u hu => Tot.val hu))
end Go.Proofs.Ytbmkhdeeengbmaa.B
