/-
  slices.DeleteFunc at SafeEdges' predicate: what is kept are the edges behind which no box has three edges that had not three before. Told as the printed functions are.
-/
import Derived.Test.YtlnngnccengdjaaDelInv
import Derived.Test.YtlnngnccengdjaaHofMono
import Derived.Test.YtlnngnccengdjaaQ20
namespace Go.Proofs.Ytlnngnccengdjaa.Q
open Go.RowKit Go.Proofs.YtlnngnccengdjaaW.PrintWords Go.Proofs.YtlnngnccengdjaaW.PrintLast Go.Proofs.YtlnngnccengdjaaW.PrintMore

def safe1P (k : Nat) (b0 b1 b2 i : Int) : Option Bool := (impl_Boxes_drawn.f k b0 b1 b2 i).map fun d => d != 3
def safeP (k : Nat) (b0 b1 b2 e : Int) : Option Bool := (impl_Boxes_add.f k b0 b1 b2 e).bind fun m => (impl_Boxes_with.f k m.1 m.2.1 m.2.2.1 3).bind fun l => anyF (safe1P k b0 b1 b2) l
def del_SafeEdges.f (k : Nat) (l0 : List Int) (b0 b1 b2 : Int) : Option (List Int) := delP (safeP k b0 b1 b2) l0
theorem del_SafeEdges.mono : ∀ l0 b0 b1 b2 k, LeO (del_SafeEdges.f k l0 b0 b1 b2) (del_SafeEdges.f (k + 1) l0 b0 b1 b2) := by
  intro l0 b0 b1 b2 k
  exact delP_mono (fun e => LeO.bind (impl_Boxes_add.mono _ _ _ _ k) (fun m => LeO.bind (impl_Boxes_with.mono _ _ _ _ k) (fun l => anyF_mono (fun i => LeO.map _ (impl_Boxes_drawn.mono _ _ _ _ k)) l))) l0
/-- The world of the predicates: the position's variable. -/
def InvS (g : Nat) (b0 b1 b2 : Int) (w : World) : Prop := w.heap[g]? = some (.cells #[.int .i64 b0, .int .i64 b1, .int .i64 b2] 27 (0, 0))
theorem InvS.below {g : Nat} {b0 b1 b2 : Int} {w w' : World} (h : InvS g b0 b1 b2 w) (hb : Below w.heap.size w w') : InvS g b0 b1 b2 w' := blk_below h hb
set_option maxHeartbeats 1000000 in
theorem safe1_pred (k g : Nat) (b0 b1 b2 : Int) : PredInv 49 #[.pointer (some ⟨g, 0, none⟩)] (safe1P k b0 b1 b2) (InvS g b0 b1 b2) none := by
  intro x r W h hI
  rw [show (#[Value.int .i64 x] ++ #[Value.pointer (some ⟨g, 0, none⟩)] : Array Value) = #[.int .i64 x, .pointer (some ⟨g, 0, none⟩)] from rfl]
  obtain ⟨q, hq, h⟩ := Option.map_eq_some_iff.1 h
  have HQ := Aside0.mk hq
  have HI := Aside0.mk hI
  have hc0 : W.cell? ⟨g, 0, none⟩ = some (.int .i64 b0) := blk_cell hI 0
  have hc1 : W.cell? ⟨g, 1, none⟩ = some (.int .i64 b1) := blk_cell hI 1
  have hc2 : W.cell? ⟨g, 2, none⟩ = some (.int .i64 b2) := blk_cell hI 2
  have hu := Try.underlying27
  subst h
  clear hq hI
  go_enter Try.func49, Try.ntmps49
  go_wp2_with (go_at_call 50; refine (impl_Boxes_drawn.calls k b0 b1 b2 x q _ HQ.out).mono ?_; rintro e w' ⟨rfl, hb'⟩)
  go_ret
  exact ⟨rfl, HI.out.below hb', grown_below hb'⟩
set_option maxHeartbeats 4000000 in
theorem safe_pred (k g : Nat) (b0 b1 b2 : Int) : PredInv 47 #[.pointer (some ⟨g, 0, none⟩)] (safeP k b0 b1 b2) (InvS g b0 b1 b2) none := by
  intro x r W h hI
  rw [show (#[Value.int .i64 x] ++ #[Value.pointer (some ⟨g, 0, none⟩)] : Array Value) = #[.int .i64 x, .pointer (some ⟨g, 0, none⟩)] from rfl]
  obtain ⟨⟨m0, m1, m2, m3⟩, hm, h⟩ := Option.bind_eq_some_iff.1 h
  obtain ⟨l, hl, h⟩ := Option.bind_eq_some_iff.1 h
  have HM := Aside0.mk hm
  have HL := Aside0.mk hl
  have HA := Aside0.mk h
  have HI := Aside0.mk hI
  have hc0 : W.cell? ⟨g, 0, none⟩ = some (.int .i64 b0) := blk_cell hI 0
  have hc1 : W.cell? ⟨g, 1, none⟩ = some (.int .i64 b1) := blk_cell hI 1
  have hc2 : W.cell? ⟨g, 2, none⟩ = some (.int .i64 b2) := blk_cell hI 2
  have hu := Try.underlying27
  clear hm hl h hI
  go_enter Try.func47, Try.ntmps47
  go_wp2_with (first
    | (go_at_call 44; refine (impl_Boxes_add.calls k b0 b1 b2 x m0 m1 m2 m3 _ HM.out).mono ?_; rintro e w2 ⟨rfl, hb2⟩)
    | (go_at_call 39; refine (impl_Boxes_with.calls k m0 m1 m2 3 l _ HL.out).mono ?_; rintro e w4 ⟨v4, rfl, ho4, hb4⟩; obtain ⟨A4, c4, rfl, hl4, hC4⟩ := Kd.R_reads ho4)
    | (go_at_call 48; refine (containsFunc_inv 49 _ (enters_of Try.func49 (by kernel_rfl) rfl) (safe1P k b0 b1 b2) (InvS g b0 b1 b2) none _ _ l r _ (safe1_pred k g b0 b1 b2) (fun W' hg => Kd.C_below hC4 (below_of_grown hg)) ((HI.out.below hb2).below (below_then (below_alloc (Below.refl _ _) _) (by simp) hb4)) hl4 hC4.2.1 HA.out).mono ?_; rintro e w5 ⟨rfl, hg5, hi5⟩))
  go_ret
  exact ⟨rfl, hi5, grown_below (below_then hb2 hb2.size (below_then (below_then (below_alloc (Below.refl _ _) _) (by simp) hb4) (Nat.le_trans (by simp) hb4.size) (below_of_grown hg5)))⟩
theorem del_SafeEdges.calls (k : Nat) (P0_ : Nat → Prop) (u9000_ : Value) (l0 : List Int) (g : Nat) (b0 b1 b2 : Int) (r : List Int) (w0 w : World) (hB : Below w0.heap.size w0 w) (ho0 : Kd.R (Kd.int .i64) 2 w w0.heap.size P0_ u9000_ l0)
    (hg : w.heap[g]? = some (.cells #[.int .i64 b0, .int .i64 b1, .int .i64 b2] 27 (0, 0))) (hne : u9000_.ownBlock ≠ some g) (h : del_SafeEdges.f k l0 b0 b1 b2 = some r) :
    Calls Try.prog 46 #[u9000_, .func (.func 47) #[] #[.pointer (some ⟨g, 0, none⟩)]] w fun e w' => ∃ v0_ : Value, e = .returned (v0_) ∧ Kd.R (Kd.int .i64) 2 w' w0.heap.size (fun k_ => (P0_ k_ ∨ w.heap.size ≤ k_)) v0_ r ∧ Below w0.heap.size w0 w' ∧ Kept w w' (fun k_ => P0_ k_) := by
  refine (deleteFunc_inv 47 _ (enters_of Try.func47 (by kernel_rfl) rfl) (safeP k b0 b1 b2) (InvS g b0 b1 b2) none P0_ u9000_ l0 r w0 w (fun W W' h1 h2 => ?_) hg (safe_pred k g b0 b1 b2) (fun k e => by cases e) hB ho0 h).mono ?_
  · exact (h2.block g (blk_lt h1) (fun e => hne e.symm)).trans h1
  · rintro e w' ⟨v, rfl, h1, h2, h3, _⟩
    exact ⟨v, rfl, h1, h2, h3.mono (fun k hk => hk.elim id (fun c => by cases c))⟩
end Go.Proofs.Ytlnngnccengdjaa.Q
