/-
  The reference's draws of positions end, whatever the code. Codes of bytes.
-/
import Derived.Test.YtelfllbjcpndfaaDrawBase
import Derived.Test.YtelfllbjcpndfaaBoxSame
import Derived.Test.YtelfllbjcpndfaaOutDraw3
import Derived.Test.YtelfllbjcpndfaaQ1
import Derived.Test.YtelfllbjcpndfaaQ4
namespace Go.Proofs.Ytelfllbjcpndfaa.B
open Go.RowKit Go.Proofs.Ytelfllbjcpndfaa.Q Go.Proofs.YtelfllbjcpndfaaW.PrintWords Go.Proofs.YtelfllbjcpndfaaW.PrintLast Go.Proofs.YtelfllbjcpndfaaW.PrintMore

theorem order_val (cl : List Int) (d : Nat) : ∀ (e : Nat) (o : List Int) (a h : Int), OkC cl a → o.length = e → (∀ x ∈ o, 0 ≤ x ∧ x ≤ 60) → e + d ≤ 30 → ∃ v, orderF cl d e o a h = some v ∧ OkC cl v.2.1 ∧ v.1.length = e + d ∧ ∀ x ∈ v.1, 0 ≤ x ∧ x ≤ 60 := by
  induction d with
  | zero => intro e o a h hc hl hm _; exact ⟨_, rfl, hc, hl, hm⟩
  | succ d ih =>
    intro e o a h hc hl hm hd
    obtain ⟨v, h1, h2, h3, _⟩ := next_val cl a h ((e + 1 : Nat) : Int) hc
    obtain ⟨h4, h5⟩ := h3 (by omega)
    simp only [orderF]
    rw [h1, Option.bind_some, if_pos ⟨⟨h4, by omega⟩, by omega, by omega⟩]
    obtain ⟨u, k1, k2, k3, k4⟩ := ih (e + 1) (o.take v.1.toNat ++ [(e : Int)] ++ o.drop v.1.toNat) v.2.1 v.2.2 h2 (by simp only [List.length_append, List.length_take, List.length_drop, List.length_cons, List.length_nil]; omega) (fun x hx => by
      rcases List.mem_append.1 hx with hx | hx
      · rcases List.mem_append.1 hx with hx | hx
        · exact hm x (List.mem_of_mem_take hx)
        · obtain rfl := List.mem_singleton.1 hx
          omega
      · exact hm x (List.mem_of_mem_drop hx)) (by omega)
    exact ⟨u, k1, k2, by omega, k4⟩
theorem edges_val (l : List Int) (hl : ∀ x ∈ l, 0 ≤ x ∧ x ≤ 60) : ∀ E, ∃ r, edgesF l E = some r := by
  induction l with
  | nil => intro E; exact ⟨E, rfl⟩
  | cons x l ih =>
    intro E
    simp only [edgesF]
    rw [if_pos (hl x List.mem_cons_self)]
    exact ih (fun y hy => hl y (List.mem_cons_of_mem _ hy)) _
theorem draw3_val (cl : List Int) (a h : Int) (hc : OkC cl a) : ∃ v, spec_l03Draw.f cl a h = some v ∧ OkC cl v.2.2.2.1 := by
  unfold spec_l03Draw.f
  obtain ⟨x, e1, o1, b1, _⟩ := next_val cl a h 3 hc
  obtain ⟨y, e2, o2, b2, _⟩ := next_val cl x.2.1 x.2.2 3 o1
  obtain ⟨m, ⟨N, em⟩, om, bm⟩ := pick_tot cl y.2.1 y.2.2 [4, 8, 11, 25] (by simp) (by decide) o2
  have em : spec_l01Pick.f cl y.2.1 y.2.2 [4, 8, 11, 25] = some m := em N (Nat.le_refl _)
  obtain ⟨q, e4, o4, b4, _⟩ := next_val cl m.2.1 m.2.2 m.1 om
  have bx := b1 (by decide)
  have by_ := b2 (by decide)
  have hm : m.1 = 4 ∨ m.1 = 8 ∨ m.1 = 11 ∨ m.1 = 25 := by simpa using bm
  have bq := b4 (by omega)
  rw [e1, Option.bind_some, e2, Option.bind_some, em, Option.bind_some, e4, Option.bind_some, if_pos ⟨by omega, by omega, by omega⟩]
  obtain ⟨_, f2, f3, _⟩ := cnt_facts (1 + x.1) (1 + y.1) (by omega) (by omega) (by omega) (by omega)
  rw [show spec_l03Count.f (1 + x.1) (1 + y.1) 0 = some (cnt (1 + x.1) (1 + y.1)) from rfl, Option.bind_some, if_pos ⟨by omega, by omega⟩]
  obtain ⟨u, k1, k2, k3, k4⟩ := order_val cl (cnt (1 + x.1) (1 + y.1)).toNat 0 [] q.2.1 q.2.2 o4 rfl (by simp) (by omega)
  rw [k1, Option.bind_some, if_pos (by omega)]
  obtain ⟨E, hE⟩ := edges_val (u.1.drop q.1.toNat) (fun z hz => k4 z (List.mem_of_mem_drop hz)) 0
  rw [hE]
  exact ⟨_, rfl, k2⟩
theorem bad3_tot (cl : List Int) (a h W H E : Int) (hc : OkC cl a) : Tot (fun _ => spec_l03Bad.f cl a h W H E) (fun _ => True) := by
  unfold spec_l03Bad.f
  refine Tot.bind (next_tot cl a h 40 hc) (fun v hv => ?_)
  refine Tot.ite (fun _ => Tot.bind (pick_tot cl _ _ _ (by simp) (by decide) hv.1) (fun u _ => Tot.val trivial)) (fun _ => ?_)
  refine Tot.ite (fun _ => Tot.bind (pick_tot cl _ _ _ (by simp) (by decide) hv.1) (fun u _ => Tot.val trivial)) (fun _ => ?_)
  exact Tot.ite (fun _ => Tot.bind (pick_tot cl _ _ _ (by simp) (by decide) hv.1) (fun u _ => Tot.val trivial)) (fun _ => Tot.val trivial)
theorem drawNet_tot (cl : List Int) (hb : ∀ x ∈ cl, 0 ≤ x ∧ x ≤ 255) (hl : cl.length ≤ 4096) : Tot (fun k => spec_DrawNetScore.f k cl) (fun _ => True) := by
  unfold spec_DrawNetScore.f spec_l03Spoil.f
  refine Tot.bind (P := fun _ => True) (Tot.bind (from_tot cl hb (by omega)) (fun s hs => ?_)) (fun v _ => Tot.val trivial)
  obtain ⟨hs1, hs2⟩ := hs
  rw [hs1]
  refine Tot.bind (Tot.const (draw3_val cl s.2.1 s.2.2 hs2)) (fun v hv => ?_)
  exact Tot.bind (bad3_tot cl _ _ _ _ _ hv) (fun u _ => Tot.val trivial)
end Go.Proofs.Ytelfllbjcpndfaa.B
