/-
  (impl.Boxes).free comes to the plain choice of the edges that are not drawn; told as the printed functions are. At most 1,000,000 edges.
-/
import Derived.Test.YtelfllbjcpndfaaQ1
import Derived.Test.YtelfllbjcpndfaaChosen
namespace Go.Proofs.Ytelfllbjcpndfaa.Q
open Go.RowKit Go.Proofs.YtelfllbjcpndfaaW.PrintWords Go.Proofs.YtelfllbjcpndfaaW.PrintLast Go.Proofs.YtelfllbjcpndfaaW.PrintMore

def freeP (b0 b1 b2 i : Int) : Option Bool := (impl_Boxes_has.f b0 b1 b2 i).map fun b => !b
def impl_Boxes_free.f (b0 b1 b2 : Int) : Option (List Int) := (impl_Boxes_edges.f b0 b1 b2).bind fun n => if n ≤ 1000000 then chooseP (freeP b0 b1 b2) n.toNat 0 else none

set_option maxHeartbeats 1000000 in
theorem free1_calls (gb : Nat) (b0 b1 b2 x : Int) (r : Bool) (W : World) (hg : W.heap[gb]? = some (.cells #[.int .i64 b0, .int .i64 b1, .int .i64 b2] 25 (0, 0))) (h : freeP b0 b1 b2 x = some r) :
    Calls Try.prog 60 (#[.int .i64 x] ++ #[.pointer (some ⟨gb, 0, none⟩)]) W fun e w' => e = .returned (.bool r) ∧ Below W.heap.size W w' := by
  rw [show (#[Value.int .i64 x] ++ #[Value.pointer (some ⟨gb, 0, none⟩)] : Array Value) = #[.int .i64 x, .pointer (some ⟨gb, 0, none⟩)] from rfl]
  obtain ⟨q, hq, hr⟩ : ∃ q, impl_Boxes_has.f b0 b1 b2 x = some q ∧ Aside0 (r = !q) := by
    unfold freeP at h
    obtain ⟨q, hq, h⟩ := Option.map_eq_some_iff.1 h
    exact ⟨q, hq, ⟨h.symm⟩⟩
  have HQ := Aside0.mk hq
  have hc0 : W.cell? ⟨gb, 0, none⟩ = some (.int .i64 b0) := blk_cell hg 0
  have hc1 : W.cell? ⟨gb, 1, none⟩ = some (.int .i64 b1) := blk_cell hg 1
  have hc2 : W.cell? ⟨gb, 2, none⟩ = some (.int .i64 b2) := blk_cell hg 2
  have hu := Try.underlying25
  clear h hq hg
  go_enter Try.func60, Try.ntmps60
  go_wp2_with (go_at_call 37; refine (impl_Boxes_has.calls b0 b1 b2 x q _ HQ.out).mono ?_; rintro e w' ⟨rfl, hb'⟩)
  go_ret
  exact ⟨by rw [hr.out]; rfl, hb'⟩

set_option maxHeartbeats 1000000 in
theorem impl_Boxes_free.calls (b0 b1 b2 : Int) (r : List Int) (w : World) (h : impl_Boxes_free.f b0 b1 b2 = some r) :
    Calls Try.prog 32 #[.agg #[.int .i64 b0, .int .i64 b1, .int .i64 b2]] w fun e w' => ∃ v0_ : Value, e = .returned (v0_) ∧ Kd.R (Kd.int .i64) 2 w' w.heap.size (fun _ => True) v0_ r ∧ Below w.heap.size w w' := by
  obtain ⟨n, hn, hm, hr⟩ : ∃ n, Aside0 (impl_Boxes_edges.f b0 b1 b2 = some n) ∧ Aside0 (n ≤ 1000000) ∧ Aside0 (chooseP (freeP b0 b1 b2) n.toNat 0 = some r) := by
    unfold impl_Boxes_free.f at h
    obtain ⟨n, hn, h⟩ := Option.bind_eq_some_iff.1 h
    split at h
    · exact ⟨n, ⟨hn⟩, ⟨by assumption⟩, ⟨h⟩⟩
    · cases h
  clear h
  generalize hw1 : w.alloc (.cells #[.int .i64 b0, .int .i64 b1, .int .i64 b2] 25) = w1
  have HB1 : Aside0 (Below w.heap.size w w1) := ⟨by rw [← hw1]; exact (Below.refl _ _).alloc (Nat.le_refl _) _⟩
  have HG : Aside0 (w1.heap[w.heap.size]? = some (.cells #[.int .i64 b0, .int .i64 b1, .int .i64 b2] 25 (0, 0))) := ⟨by rw [← hw1]; simpa using heap_alloc_new w _⟩
  have HL : Aside0 (w.heap.size < w1.heap.size) := ⟨by rw [← hw1]; simp⟩
  have hc0 : w1.cell? ⟨w.heap.size, 0, none⟩ = some (.int .i64 b0) := blk_cell HG.out 0
  have hc1 : w1.cell? ⟨w.heap.size, 1, none⟩ = some (.int .i64 b1) := blk_cell HG.out 1
  have hc2 : w1.cell? ⟨w.heap.size, 2, none⟩ = some (.int .i64 b2) := blk_cell HG.out 2
  have hu := Try.underlying25
  go_enter Try.func32, Try.ntmps32
  go_wp2_with (go_at_call 36; refine (impl_Boxes_edges.calls b0 b1 b2 n _ hn.out).mono ?_; rintro e w2 ⟨rfl, hb2⟩; have HB2 := Aside0.mk hb2; clear hb2)
  have hs1 := HB1.out.size
  have hs2 := HB2.out.size
  have HB4 := Aside0.mk (below_then HB1.out hs1 HB2.out)
  have HG2 : Aside0 (w2.heap[w.heap.size]? = some (.cells #[.int .i64 b0, .int .i64 b1, .int .i64 b2] 25 (0, 0))) := ⟨(HB2.out.block _ HL.out).trans HG.out⟩
  have HL2 : Aside0 (w.heap.size < w2.heap.size) := ⟨Nat.lt_of_lt_of_le HL.out hs2⟩
  clear HB1 HB2 HG HL hs1 hs2 hc0 hc1 hc2 hw1
  refine (chosen_calls 60 _ (enters_of Try.func60 (by kernel_rfl) rfl) (freeP b0 b1 b2) n r _ (fun x b W _ _ hW hb => free1_calls w.heap.size b0 b1 b2 x b W ((hW.block _ HL2.out).trans HG2.out) hb) hm.out hr.out).mono ?_
  rintro e w3 ⟨v3, rfl, ho3, hb3⟩
  have HO4 := Aside0.mk (Kd.R_lower ho3 (Nat.le_of_lt HL2.out))
  have HB5 := Aside0.mk (below_then HB4.out (Nat.le_of_lt HL2.out) hb3)
  clear ho3 hb3 HG2 HL2 HB4 hr hm hn
  go_wp2
  go_ret
  exact ⟨_, rfl, HO4.out, HB5.out⟩
end Go.Proofs.Ytelfllbjcpndfaa.Q
