/-
  (impl.Boxes).with comes to the plain choice of the boxes of which so many edges are drawn; told as the printed functions are. At most 1,000,000 boxes.
-/
import Derived.Test.YtelfllbjcpndfaaQ1
import Derived.Test.YtelfllbjcpndfaaChosen
namespace Go.Proofs.Ytelfllbjcpndfaa.Q
open Go.RowKit Go.Proofs.YtelfllbjcpndfaaW.PrintWords Go.Proofs.YtelfllbjcpndfaaW.PrintLast Go.Proofs.YtelfllbjcpndfaaW.PrintMore

def withP (k : Nat) (b0 b1 b2 n i : Int) : Option Bool := (impl_Boxes_drawn.f k b0 b1 b2 i).map fun d => d == n
def impl_Boxes_with.f (k : Nat) (b0 b1 b2 n : Int) : Option (List Int) := (impl_Boxes_boxes.f b0 b1 b2).bind fun m => if m ≤ 1000000 then chooseP (withP k b0 b1 b2 n) m.toNat 0 else none
theorem chooseP_mono {p q : Int → Option Bool} (h : ∀ i, LeO (p i) (q i)) (d : Nat) : ∀ i, LeO (chooseP p d i) (chooseP q d i) := by
  induction d with
  | zero => intro i; exact LeO.refl _
  | succ d ih => intro i; exact LeO.bind (h i) (fun b => LeO.bind (ih _) (fun l => LeO.refl _))
theorem impl_Boxes_with.mono : ∀ a0 a1 a2 a3 k, LeO (impl_Boxes_with.f k a0 a1 a2 a3) (impl_Boxes_with.f (k + 1) a0 a1 a2 a3) := by
  intro a0 a1 a2 a3 k
  unfold impl_Boxes_with.f
  refine LeO.bind (LeO.refl _) (fun m => LeO.ite ?_ (LeO.refl _))
  exact chooseP_mono (fun i => LeO.map _ (impl_Boxes_drawn.mono _ _ _ _ _)) _ _

set_option maxHeartbeats 1000000 in
theorem with1_calls (k : Nat) (gb gn : Nat) (b0 b1 b2 n x : Int) (r : Bool) (W : World) (hg : W.heap[gb]? = some (.cells #[.int .i64 b0, .int .i64 b1, .int .i64 b2] 25 (0, 0)))
    (hn : W.heap[gn]? = some (.cells #[.int .i64 n] 2 (0, 0))) (h : withP k b0 b1 b2 n x = some r) :
    Calls Try.prog 70 (#[.int .i64 x] ++ #[.pointer (some ⟨gb, 0, none⟩), .pointer (some ⟨gn, 0, none⟩)]) W fun e w' => e = .returned (.bool r) ∧ Below W.heap.size W w' := by
  rw [show (#[Value.int .i64 x] ++ #[Value.pointer (some ⟨gb, 0, none⟩), .pointer (some ⟨gn, 0, none⟩)] : Array Value) = #[.int .i64 x, .pointer (some ⟨gb, 0, none⟩), .pointer (some ⟨gn, 0, none⟩)] from rfl]
  obtain ⟨q, hq, hr⟩ : ∃ q, impl_Boxes_drawn.f k b0 b1 b2 x = some q ∧ Aside0 (r = (q == n)) := by
    unfold withP at h
    obtain ⟨q, hq, h⟩ := Option.map_eq_some_iff.1 h
    exact ⟨q, hq, ⟨h.symm⟩⟩
  have HQ := Aside0.mk hq
  have hc0 : W.cell? ⟨gb, 0, none⟩ = some (.int .i64 b0) := blk_cell hg 0
  have hc1 : W.cell? ⟨gb, 1, none⟩ = some (.int .i64 b1) := blk_cell hg 1
  have hc2 : W.cell? ⟨gb, 2, none⟩ = some (.int .i64 b2) := blk_cell hg 2
  have hc3 : W.cell? ⟨gn, 0, none⟩ = some (.int .i64 n) := blk_cell hn 0
  have hu := Try.underlying25
  have HB := Aside0.mk (Below.refl W.heap.size W)
  clear h hq hg hn
  go_enter Try.func70, Try.ntmps70
  go_wp2_with fail
  go_region_held3 (fun w' => w'.cell? ⟨gb, 0, none⟩ = some (.int .i64 b0) ∧ w'.cell? ⟨gb, 1, none⟩ = some (.int .i64 b1) ∧ w'.cell? ⟨gb, 2, none⟩ = some (.int .i64 b2) ∧ w'.cell? ⟨gn, 0, none⟩ = some (.int .i64 n) ∧ Aside0 (Below W.heap.size W w'))
    (first
      | exact ⟨hc0, hc1, hc2, hc3, ⟨below_drew HB.out⟩⟩
      | go_keep
      | (go_split_ands; exact ⟨pw_cell_below hb' (by assumption), pw_cell_below hb' (by assumption), pw_cell_below hb' (by assumption), pw_cell_below hb' (by assumption), ⟨below_then (below_drew HB.out) (Nat.le_refl _) hb'⟩⟩))
    (first | (go_at_call 71; refine (impl_Boxes_drawn.calls k b0 b1 b2 x q _ HQ.out).mono ?_; rintro e w' ⟨rfl, hb'⟩))
  go_wp2
  go_ret
  exact ⟨by rw [hr.out]; rfl, below_then (below_drew HB.out) (Nat.le_refl _) hb'⟩

set_option maxHeartbeats 1000000 in
theorem impl_Boxes_with.calls (k : Nat) (b0 b1 b2 n : Int) (r : List Int) (w : World) (h : impl_Boxes_with.f k b0 b1 b2 n = some r) :
    Calls Try.prog 57 #[.agg #[.int .i64 b0, .int .i64 b1, .int .i64 b2], .int .i64 n] w fun e w' => ∃ v0_ : Value, e = .returned (v0_) ∧ Kd.R (Kd.int .i64) 2 w' w.heap.size (fun _ => True) v0_ r ∧ Below w.heap.size w w' := by
  obtain ⟨m, hn, hm, hr⟩ : ∃ m, Aside0 (impl_Boxes_boxes.f b0 b1 b2 = some m) ∧ Aside0 (m ≤ 1000000) ∧ Aside0 (chooseP (withP k b0 b1 b2 n) m.toNat 0 = some r) := by
    unfold impl_Boxes_with.f at h
    obtain ⟨m, hn, h⟩ := Option.bind_eq_some_iff.1 h
    split at h
    · exact ⟨m, ⟨hn⟩, ⟨by assumption⟩, ⟨h⟩⟩
    · cases h
  clear h
  generalize hw1 : (w.alloc (.cells #[.int .i64 b0, .int .i64 b1, .int .i64 b2] 25)).alloc (.cells #[.int .i64 n] 2) = w1
  have HB1 : Aside0 (Below w.heap.size w w1) := ⟨by rw [← hw1]; exact ((Below.refl _ _).alloc (Nat.le_refl _) _).alloc (by simp) _⟩
  have HG : Aside0 (w1.heap[w.heap.size]? = some (.cells #[.int .i64 b0, .int .i64 b1, .int .i64 b2] 25 (0, 0))) := ⟨by
    rw [← hw1, (MapKept.heap_alloc _ _).2 _ (by simp)]
    simpa using heap_alloc_new w _⟩
  have HN : Aside0 (w1.heap[w.heap.size + 1]? = some (.cells #[.int .i64 n] 2 (0, 0))) := ⟨by
    rw [← hw1]
    simpa using heap_alloc_new (w.alloc (.cells #[.int .i64 b0, .int .i64 b1, .int .i64 b2] 25)) (.cells #[.int .i64 n] 2)⟩
  have HL : Aside0 (w.heap.size + 1 < w1.heap.size) := ⟨by rw [← hw1]; simp⟩
  have hc0 : w1.cell? ⟨w.heap.size, 0, none⟩ = some (.int .i64 b0) := blk_cell HG.out 0
  have hc1 : w1.cell? ⟨w.heap.size, 1, none⟩ = some (.int .i64 b1) := blk_cell HG.out 1
  have hc2 : w1.cell? ⟨w.heap.size, 2, none⟩ = some (.int .i64 b2) := blk_cell HG.out 2
  have hu := Try.underlying25
  go_enter Try.func57, Try.ntmps57
  go_wp2_with (go_at_call 61; refine (impl_Boxes_boxes.calls b0 b1 b2 m _ hn.out).mono ?_; rintro e w2 ⟨rfl, hb2⟩; have HB2 := Aside0.mk hb2; clear hb2)
  have hs1 := HB1.out.size
  have hs2 := HB2.out.size
  have hl := HL.out
  have HB4 := Aside0.mk (below_then HB1.out hs1 HB2.out)
  have HG2 : Aside0 (w2.heap[w.heap.size]? = some (.cells #[.int .i64 b0, .int .i64 b1, .int .i64 b2] 25 (0, 0))) := ⟨(HB2.out.block _ (by omega)).trans HG.out⟩
  have HN2 : Aside0 (w2.heap[w.heap.size + 1]? = some (.cells #[.int .i64 n] 2 (0, 0))) := ⟨(HB2.out.block _ hl).trans HN.out⟩
  have HL2 : Aside0 (w.heap.size + 1 < w2.heap.size) := ⟨Nat.lt_of_lt_of_le hl hs2⟩
  clear HB1 HB2 HG HL hs1 hs2 hc0 hc1 hc2 hw1 hl HN
  refine (chosen_calls 70 _ (enters_of Try.func70 (by kernel_rfl) rfl) (withP k b0 b1 b2 n) m r _ (fun x b W _ _ hW hb => with1_calls k w.heap.size (w.heap.size + 1) b0 b1 b2 n x b W ((hW.block _ (by have := HL2.out; omega)).trans HG2.out) ((hW.block _ HL2.out).trans HN2.out) hb) hm.out hr.out).mono ?_
  rintro e w3 ⟨v3, rfl, ho3, hb3⟩
  have hle : w.heap.size ≤ w2.heap.size := by have := HL2.out; omega
  have HO4 := Aside0.mk (Kd.R_lower ho3 hle)
  have HB5 := Aside0.mk (below_then HB4.out hle hb3)
  clear ho3 hb3 HG2 HL2 HN2 HB4 hr hm hn hle
  go_wp2
  go_ret
  exact ⟨_, rfl, HO4.out, HB5.out⟩
end Go.Proofs.Ytelfllbjcpndfaa.Q
