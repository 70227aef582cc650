/-
  impl.openMoves, told as the printed functions are: the plain choice of the open moves. The rows within memory's reach.
-/
import Derived.Test.YtjblefcdihmdbaaDoorOutOpen
import Derived.Test.YtjblefcdihmdbaaDoorChosen
namespace Go.Proofs.YtjblefcdihmdbaaDoor.Q
open Go.RowKit Go.Proofs.YtjblefcdihmdbaaDoorW.PrintWords Go.Proofs.YtjblefcdihmdbaaDoorW.PrintLast Go.Proofs.YtjblefcdihmdbaaDoorW.PrintMore

def impl_openMoves.f (k : Nat) (l : List ByteArray) (c0 c1 c2 c3 : Int) : Option (List Int) := chooseP (fun m => impl_isOpen.f k l c0 c1 c2 c3 m) 9 0
theorem chooseP_mono {p q : Int → Option Bool} (h : ∀ i, LeO (p i) (q i)) (d : Nat) : ∀ i, LeO (chooseP p d i) (chooseP q d i) := by
  induction d with
  | zero => intro i; exact LeO.refl _
  | succ d ih => intro i; exact LeO.bind (h i) (fun b => LeO.bind (ih _) (fun l => LeO.refl _))
theorem impl_openMoves.mono : ∀ a0 a1 a2 a3 a4 k, LeO (impl_openMoves.f k a0 a1 a2 a3 a4) (impl_openMoves.f (k + 1) a0 a1 a2 a3 a4) := by
  intro a0 a1 a2 a3 a4 k
  unfold impl_openMoves.f
  exact chooseP_mono (fun i => impl_isOpen.mono _ _ _ _ _ _ _) _ _
set_option linter.unusedSimpArgs false
set_option maxRecDepth 100000
set_option maxHeartbeats 8000000 in
theorem moves1_calls (k : Nat) (gr gc : Nat) (A : Option Addr) (c : Nat) (l : List ByteArray) (c0 c1 c2 c3 m : Int) (b : Bool) (W : World) (hr : Kd.C Kd.string W A l.length l) (hc : l.length ≤ c) (hg : W.heap[gr]? = some (.cells #[.slice A l.length c] 22 (0, 0)))
    (hq : W.heap[gc]? = some (.cells #[.int .i64 c0, .int .i64 c1, .int .i64 c2, .int .i64 c3] 28 (0, 0))) (h : impl_isOpen.f k l c0 c1 c2 c3 m = some b) :
    Calls Tryd.prog 55 (#[.int .i64 m] ++ #[.pointer (some ⟨gr, 0, none⟩), .pointer (some ⟨gc, 0, none⟩)]) W fun e w' => e = .returned (.bool b) ∧ Below W.heap.size W w' := by
  rw [show (#[Value.int .i64 m] ++ #[Value.pointer (some ⟨gr, 0, none⟩), .pointer (some ⟨gc, 0, none⟩)] : Array Value) = #[.int .i64 m, .pointer (some ⟨gr, 0, none⟩), .pointer (some ⟨gc, 0, none⟩)] from rfl]
  have q0 : W.cell? ⟨gr, 0, none⟩ = some (.slice A l.length c) := blk_cell hg 0
  have q1 : W.cell? ⟨gc, 0, none⟩ = some (.int .i64 c0) := blk_cell hq 0
  have q2 : W.cell? ⟨gc, 1, none⟩ = some (.int .i64 c1) := blk_cell hq 1
  have q3 : W.cell? ⟨gc, 2, none⟩ = some (.int .i64 c2) := blk_cell hq 2
  have q4 : W.cell? ⟨gc, 3, none⟩ = some (.int .i64 c3) := blk_cell hq 3
  have hu := Tryd.underlying28
  have H := Aside0.mk h
  have HR := Aside0.mk hr
  clear hg hq h hr
  go_enter Tryd.func55, Tryd.ntmps55
  go_wp2_with (go_at_call 56; refine (impl_isOpen.calls k A c l c0 c1 c2 c3 m b _ HR.out hc H.out).mono ?_; rintro e w' ⟨rfl, hb'⟩)
  go_ret
  exact ⟨rfl, hb'⟩
set_option maxHeartbeats 8000000 in
theorem impl_openMoves.calls (k : Nat) (A0 : Option Addr) (c0 : Nat) (l0 : List ByteArray) (a1_0 a1_1 a1_2 a1_3 : Int) (r : List Int) (w : World) (hr0 : Kd.C Kd.string w A0 l0.length l0) (hc0 : l0.length ≤ c0) (h : impl_openMoves.f k l0 a1_0 a1_1 a1_2 a1_3 = some r) :
    Calls Tryd.prog 35 #[.slice A0 l0.length c0, .agg #[.int .i64 a1_0, .int .i64 a1_1, .int .i64 a1_2, .int .i64 a1_3]] w fun e w' => ∃ v0_ : Value, e = .returned (v0_) ∧ Kd.R (Kd.int .i64) 2 w' w.heap.size (fun _ => True) v0_ r ∧ Below w.heap.size w w' := by
  generalize hw1 : (w.alloc (.cells #[.slice A0 l0.length c0] 22)).alloc (.cells #[.int .i64 a1_0, .int .i64 a1_1, .int .i64 a1_2, .int .i64 a1_3] 28) = w1
  have HS1 := OpenS.box hr0 hw1
  have HC : Aside0 (Calls Tryd.prog 54 #[.int .i64 9, .func (.func 55) #[] #[.pointer (some ⟨w.heap.size, 0, none⟩), .pointer (some ⟨w.heap.size + 1, 0, none⟩)]] w1 fun e w' => ∃ v : Value, e = .returned v ∧ Kd.R (Kd.int .i64) 2 w' w1.heap.size (fun _ => True) v r ∧ Below w1.heap.size w1 w') :=
    ⟨chosen_calls 55 _ (enters_of Tryd.func55 (by kernel_rfl) rfl) (fun m => impl_isOpen.f k l0 a1_0 a1_1 a1_2 a1_3 m) 9 r w1 (fun x b W _ _ hW hb => by
      have HW := OpenS.step HS1 hW
      exact moves1_calls k _ _ A0 c0 l0 a1_0 a1_1 a1_2 a1_3 x b W HW.out.reads hc0 HW.out.row HW.out.car hb) (by omega) h⟩
  have hu := Tryd.underlying28
  clear h hr0
  go_enter Tryd.func35, Tryd.ntmps35
  go_wp2_with (go_at_call 54; refine HC.out.mono ?_; rintro e w2 ⟨v2, rfl, ho2, hb2⟩)
  go_ret
  exact ⟨_, rfl, Kd.R_lower ho2 HS1.out.below.size, (OpenS.step HS1 hb2).out.below⟩
end Go.Proofs.YtjblefcdihmdbaaDoor.Q
