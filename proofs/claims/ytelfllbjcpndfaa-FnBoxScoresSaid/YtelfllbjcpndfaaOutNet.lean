/-
  NetScore and BestEdges: the code, or the net score, or the best edges; told as the printed functions are.
-/
import Derived.Test.YtelfllbjcpndfaaOutScores
import Derived.Test.YtelfllbjcpndfaaHof
import Derived.Test.YtelfllbjcpndfaaQ1
namespace Go.Proofs.Ytelfllbjcpndfaa.Q
open Go.RowKit Go.Proofs.YtelfllbjcpndfaaW.PrintWords Go.Proofs.YtelfllbjcpndfaaW.PrintLast Go.Proofs.YtelfllbjcpndfaaW.PrintMore
open Go.Maps (Keyed)

def impl_NetScore.f (k : Nat) (W H E : Int) : Option (Int × Int) := (impl_scoreCode.f k W H E).bind fun c => if c = 0 then (scoreF k W H 14 E).bind fun r => some (r, 0) else some (0, c)
theorem impl_NetScore.mono : ∀ a0 a1 a2 k, LeO (impl_NetScore.f k a0 a1 a2) (impl_NetScore.f (k + 1) a0 a1 a2) := by
  intro a0 a1 a2 k
  exact LeO.bind (impl_scoreCode.mono _ _ _ k) (fun c => LeO.ite (LeO.bind (scoreF_mono _ _ _ k _) (fun r => LeO.refl _)) (LeO.refl _))
def worseP (k : Nat) (W H : Int) (d : Nat) (E e : Int) : Option Bool := (behindF (scoreF k W H d) k W H E e).bind fun x => (scoreF k W H d E).bind fun y => some (x != y)
def bestF (k : Nat) (W H : Int) (d : Nat) (E : Int) : Option (List Int) := (impl_Boxes_free.f W H E).bind fun l => delP (worseP k W H d E) l
theorem bestF_mono (k : Nat) (W H : Int) (d : Nat) (E : Int) : LeO (bestF k W H d E) (bestF (k + 1) W H d E) :=
  LeO.bind (LeO.refl _) (fun l => delP_mono (fun _ => LeO.bind (behindF_mono (scoreF_mono W H d k) _ _ _ _ _) (fun _ => LeO.bind (scoreF_mono W H d k _) (fun _ => LeO.refl _))) l)
def impl_BestEdges.f (k : Nat) (W H E : Int) : Option (List Int × Int) := (impl_scoreCode.f k W H E).bind fun c => if c = 0 then (bestF k W H 14 E).bind fun l => some (l, 0) else some (([] : List Int), c)
theorem impl_BestEdges.mono : ∀ a0 a1 a2 k, LeO (impl_BestEdges.f k a0 a1 a2) (impl_BestEdges.f (k + 1) a0 a1 a2) := by
  intro a0 a1 a2 k
  exact LeO.bind (impl_scoreCode.mono _ _ _ k) (fun c => LeO.ite (LeO.bind (bestF_mono _ _ _ _ _) (fun r => LeO.refl _)) (LeO.refl _))

/-- A position's variable. -/
def HeldB (w : World) (W H E : Int) (w' : World) : Prop := w'.heap[w.heap.size]? = some (.cells #[.int .i64 W, .int .i64 H, .int .i64 E] 25 (0, 0)) ∧ Below w.heap.size w w'
section
variable {w a a' : World} {W H E : Int}
theorem HeldB.cells (h : HeldB w W H E a) : a.cell? ⟨w.heap.size, 0, none⟩ = some (.int .i64 W) ∧ a.cell? ⟨w.heap.size, 1, none⟩ = some (.int .i64 H) ∧ a.cell? ⟨w.heap.size, 2, none⟩ = some (.int .i64 E) ∧ Aside0 (HeldB w W H E a) :=
  ⟨blk_cell h.1 0, blk_cell h.1 1, blk_cell h.1 2, ⟨h⟩⟩
theorem HeldB.drew (h : HeldB w W H E a) : HeldB w W H E a.drew := ⟨h.1, below_drew h.2⟩
theorem heldB_below (h : Aside0 (HeldB w W H E a)) (hb : Below a.heap.size a a') : HeldB w W H E a' := ⟨(hb.block _ (at_block h.out.1)).trans h.out.1, below_then h.out.2 h.out.2.size hb⟩
theorem heldB_then {q : TypeId} {good : Value → Value → Prop} {b : Nat} (h : Aside0 (HeldB w W H E a)) (hg : a.grownBy a' (some b)) (hm : Memo Try.prog q good a b) (hb : w.heap.size ≤ b) : HeldB w W H E a' :=
  ⟨(hg.block _ (at_block h.out.1) (hm.ne h.out.1)).trans h.out.1, h.out.2.grown hg h.out.2.size (fun k e => by have := Option.some.inj e; omega)⟩
theorem heldB_below2 (h : Aside0 (HeldB w W H E a)) (hb : Below a.heap.size a a') : Aside0 (HeldB w W H E a') := ⟨heldB_below h hb⟩
theorem heldB_b (h : Aside0 (HeldB w W H E a)) : Below w.heap.size w a := h.out.2
end
set_option linter.unusedSimpArgs false
set_option maxRecDepth 100000
set_option maxHeartbeats 4000000 in
theorem impl_NetScore.calls (k : Nat) (W H E r1 r2 : Int) (w : World) (h : impl_NetScore.f k W H E = some (r1, r2)) :
    Calls Try.prog 6 #[.agg #[.int .i64 W, .int .i64 H, .int .i64 E]] w fun e w' => e = .returned (.tuple #[.int .i64 r1, .int .i64 r2]) ∧ Below w.heap.size w w' := by
  unfold impl_NetScore.f at h
  obtain ⟨c, hc, h⟩ := Option.bind_eq_some_iff.1 h
  generalize hw1 : w.alloc (.cells #[.int .i64 W, .int .i64 H, .int .i64 E] 25) = w1
  have HK : Aside0 (HeldB w W H E w1) := ⟨by rw [← hw1]; simpa using heap_alloc_new w (.cells #[.int .i64 W, .int .i64 H, .int .i64 E] 25), by rw [← hw1]; exact (Below.refl _ _).alloc (Nat.le_refl _) _⟩
  obtain ⟨hc0, hc1, hc2, _⟩ := HK.out.cells
  have hu := Try.underlying25
  have HC := Aside0.mk hc
  clear hc
  by_cases e : c = 0
  · rw [if_pos e] at h
    subst e
    obtain ⟨x, hx, h⟩ := Option.bind_eq_some_iff.1 h
    simp only [Option.some.injEq, Prod.mk.injEq] at h
    obtain ⟨rfl, rfl⟩ := h
    have HX := Aside0.mk hx
    clear hx
    go_enter Try.func6, Try.ntmps6
    go_wp2_with (go_at_call 21; refine (impl_scoreCode.calls k W H E 0 _ HC.out).mono ?_; rintro e w2 ⟨rfl, hb2⟩)
    obtain ⟨hd0, hd1, hd2, HS⟩ := (heldB_below HK hb2).cells
    have hsz : w.heap.size ≤ w2.heap.size := HS.out.2.size
    go_region_held3 (fun w' => w'.cell? ⟨w.heap.size, 0, none⟩ = some (.int .i64 W) ∧ w'.cell? ⟨w.heap.size, 1, none⟩ = some (.int .i64 H) ∧ w'.cell? ⟨w.heap.size, 2, none⟩ = some (.int .i64 E) ∧ Aside0 (HeldB w W H E w'))
      (first
        | exact HS.out.drew.cells
        | (go_split_ands; exact (heldB_then (by assumption) hg4 he3.memo (Nat.le_trans hsz hlt)).cells)
        | (go_split_ands; exact (heldB_below (by assumption) hb3).cells))
      (first | (go_at_call 22; refine (scores_calls k W H _).mono ?_; rintro e w3 ⟨qk, qf, b, rfl, he3, hb3, hlt⟩) | (go_at_call 48; refine (score_at k W H 14 E x _ qk qf b he3 HX.out).mono ?_; rintro e w4 ⟨rfl, he4, hg4⟩))
    go_wp2
    go_ret2
    rename_i hH
    exact ⟨rfl, hH.2.2.2.out.2⟩
  · rw [if_neg e] at h
    simp only [Option.some.injEq, Prod.mk.injEq] at h
    obtain ⟨rfl, rfl⟩ := h
    have hne : (c != 0) = true := by simpa using e
    go_enter Try.func6, Try.ntmps6
    go_wp2_with (go_at_call 21; refine (impl_scoreCode.calls k W H E c _ HC.out).mono ?_; rintro e w2 ⟨rfl, hb2⟩)
    go_ret2
    exact ⟨rfl, (heldB_below HK hb2).2⟩

/-- The predicate's world: the function's variables, the position, and the variable that holds the function. -/
def InvB (k : Nat) (W H : Int) (qk qf b gs gq : Nat) (E : Int) (w : World) : Prop := EnvS k W H qk qf b w ∧ w.heap[gs]? = some (.cells #[.int .i64 W, .int .i64 H, .int .i64 E] 25 (0, 0)) ∧
  w.heap[gq]? = some (.cells #[.func (.func 48) #[] #[.pointer (some ⟨qk, 0, none⟩), .pointer (some ⟨qf, 0, none⟩)]] 47 (0, 0))
section
variable {k : Nat} {W H E : Int} {qk qf b gs gq : Nat} {a w w' : World}
theorem InvB.grown (h : InvB k W H qk qf b gs gq E w) (he : EnvS k W H qk qf b w') (hg : w.grownBy w' (some b)) : InvB k W H qk qf b gs gq E w' := ⟨he, blk_grown h.2.1 hg (h.1.memo.ne h.2.1), blk_grown h.2.2 hg (h.1.memo.ne h.2.2)⟩
theorem InvB.below (h : InvB k W H qk qf b gs gq E w) (hb : Below w.heap.size w w') : InvB k W H qk qf b gs gq E w' := ⟨h.1.below hb, blk_below h.2.1 hb, blk_below h.2.2 hb⟩
theorem InvB.cells (h : InvB k W H qk qf b gs gq E w ∧ a.grownBy w (some b)) :
    w.cell? ⟨gq, 0, none⟩ = some (.func (.func 48) #[] #[.pointer (some ⟨qk, 0, none⟩), .pointer (some ⟨qf, 0, none⟩)]) ∧ w.cell? ⟨gs, 0, none⟩ = some (.int .i64 W) ∧ w.cell? ⟨gs, 1, none⟩ = some (.int .i64 H) ∧ w.cell? ⟨gs, 2, none⟩ = some (.int .i64 E) ∧ Aside0 (InvB k W H qk qf b gs gq E w ∧ a.grownBy w (some b)) :=
  ⟨blk_cell h.1.2.2 0, blk_cell h.1.2.1 0, blk_cell h.1.2.1 1, blk_cell h.1.2.1 2, ⟨h⟩⟩
theorem scoreB {d : Nat} {r : Int} (hh : Aside0 (InvB k W H qk qf b gs gq E w ∧ a.grownBy w (some b))) (hw : Aside0 (scoreF k W H d E = some r)) :
    Calls Try.prog 48 #[.agg #[.int .i64 W, .int .i64 H, .int .i64 E], .pointer (some ⟨qk, 0, none⟩), .pointer (some ⟨qf, 0, none⟩)] w fun e w' => e = .returned (.int .i64 r) ∧ InvB k W H qk qf b gs gq E w' ∧ a.grownBy w' (some b) :=
  (score_at k W H d E r w qk qf b hh.out.1.1 hw.out).mono (fun _ _ ⟨h1, h2, h3⟩ => ⟨h1, hh.out.1.grown h2 h3, grown_then hh.out.2 h3⟩)
theorem behindB {d : Nat} {x r : Int} (hh : Aside0 (InvB k W H qk qf b gs gq E w ∧ a.grownBy w (some b))) (hw : Aside0 (behindF (scoreF k W H d) k W H E x = some r)) :
    Calls Try.prog 49 #[.agg #[.int .i64 W, .int .i64 H, .int .i64 E], .int .i64 x, .func (.func 48) #[] #[.pointer (some ⟨qk, 0, none⟩), .pointer (some ⟨qf, 0, none⟩)]] w fun e w' => e = .returned (.int .i64 r) ∧ InvB k W H qk qf b gs gq E w' ∧ a.grownBy w' (some b) :=
  (behind_calls k W H d (score_at k W H d) E x r w qk qf b hh.out.1.1 hw.out).mono (fun _ _ ⟨h1, h2, h3⟩ => ⟨h1, hh.out.1.grown h2 h3, grown_then hh.out.2 h3⟩)
end
set_option maxHeartbeats 4000000 in
theorem best_pred (k : Nat) (W H : Int) (d : Nat) (qk qf b gs gq : Nat) (E : Int) :
    PredInv 55 #[.pointer (some ⟨gs, 0, none⟩), .pointer (some ⟨gq, 0, none⟩)] (worseP k W H d E) (InvB k W H qk qf b gs gq E) (some b) := by
  intro x q w h hI
  rw [show (#[Value.int .i64 x] ++ #[Value.pointer (some ⟨gs, 0, none⟩), .pointer (some ⟨gq, 0, none⟩)] : Array Value) = #[.int .i64 x, .pointer (some ⟨gs, 0, none⟩), .pointer (some ⟨gq, 0, none⟩)] from rfl]
  obtain ⟨y, hy, h⟩ := Option.bind_eq_some_iff.1 h
  obtain ⟨z, hz, h⟩ := Option.bind_eq_some_iff.1 h
  obtain rfl := Option.some.inj h
  have HY := Aside0.mk hy
  have HZ := Aside0.mk hz
  obtain ⟨hcf, hc0, hc1, hc2, HI⟩ := InvB.cells (And.intro hI (grown_refl w (some b)))
  have hu := Try.underlying25
  clear hy hz h hI
  go_enter Try.func55, Try.ntmps55
  go_wp2_with fail
  go_region_held3 (fun w' => w'.cell? ⟨gq, 0, none⟩ = some (.func (.func 48) #[] #[.pointer (some ⟨qk, 0, none⟩), .pointer (some ⟨qf, 0, none⟩)]) ∧ w'.cell? ⟨gs, 0, none⟩ = some (.int .i64 W) ∧ w'.cell? ⟨gs, 1, none⟩ = some (.int .i64 H) ∧ w'.cell? ⟨gs, 2, none⟩ = some (.int .i64 E) ∧ Aside0 (InvB k W H qk qf b gs gq E w' ∧ w.grownBy w' (some b)))
    (first
      | exact InvB.cells ⟨HI.out.1.below (below_drew (Below.refl _ _)), grown_drew HI.out.2⟩
      | exact InvB.cells hh')
    (first | (go_at_call 49; go_split_ands; refine (behindB (by assumption) HY).mono ?_; rintro e w' ⟨rfl, hh'⟩) | (go_at_call 48; go_split_ands; refine (scoreB (by assumption) HZ).mono ?_; rintro e w' ⟨rfl, hh'⟩))
  go_wp2
  go_ret
  rename_i hH
  exact ⟨rfl, hH.2.2.2.2.out.1, hH.2.2.2.2.out.2⟩
theorem own_lower {w w1 : World} {base e : Nat} {v : Value} {l : List Int} (h : Kd.R (Kd.int .i64) e w w1.heap.size (fun _ => True) v l) (hb : base ≤ w1.heap.size) : Kd.R (Kd.int .i64) e w base (fun k_ => w1.heap.size ≤ k_) v l :=
  Kd.R_lower (Kd.R_mono (Kd.R_bound h) (fun _ hk => hk.2.1)) hb
/-- A store into a row of its own leaves the predicate's world as it was. -/
theorem invB_own {k : Nat} {W H E : Int} {qk qf b n m : Nat} {w1 w2 W1 W2 : World} {v : Value} {e : Nat} {l : List Int} (h0 : InvB k W H qk qf b n m E w1) (h : InvB k W H qk qf b n m E W1) (ho : Kd.R (Kd.int .i64) e w2 w1.heap.size (fun _ => True) v l) (hg : W1.grownBy W2 v.ownBlock) : InvB k W H qk qf b n m E W2 := by
  have hne : ∀ i, i < w1.heap.size → some i ≠ v.ownBlock := fun i hi e => by
    have := Kd.R_base ho i e.symm
    omega
  have step : ∀ i o, i < w1.heap.size → W1.heap[i]? = some o → W2.heap[i]? = some o := fun i o hi e => (hg.block i (at_block e) (hne i hi)).trans e
  exact ⟨⟨step qk _ (at_block h0.1.known) h.1.known, step qf _ (at_block h0.1.find) h.1.find, h.1.memo.kept hg (hne b h0.1.memo.lt)⟩, step n _ (at_block h0.2.1) h.2.1, step m _ (at_block h0.2.2) h.2.2⟩
set_option maxHeartbeats 4000000 in
theorem bestEdges_calls (k : Nat) (W H : Int) (d : Nat) (E : Int) (r : List Int) (w0 w : World) (qk qf b : Nat) (hE : EnvS k W H qk qf b w) (hB : Below w0.heap.size w0 w) (hb : w0.heap.size ≤ b) (h : bestF k W H d E = some r) :
    Calls Try.prog 27 #[.agg #[.int .i64 W, .int .i64 H, .int .i64 E], .func (.func 48) #[] #[.pointer (some ⟨qk, 0, none⟩), .pointer (some ⟨qf, 0, none⟩)]] w
      fun e w' => ∃ v0_ : Value, e = .returned v0_ ∧ Kd.R (Kd.int .i64) 2 w' w0.heap.size (fun k_ => w.heap.size ≤ k_) v0_ r ∧ EnvS k W H qk qf b w' ∧ w.grownBy w' (some b) := by
  obtain ⟨l, hl, h⟩ := Option.bind_eq_some_iff.1 h
  generalize hw1 : (w.alloc (.cells #[.int .i64 W, .int .i64 H, .int .i64 E] 25)).alloc (.cells #[.func (.func 48) #[] #[.pointer (some ⟨qk, 0, none⟩), .pointer (some ⟨qf, 0, none⟩)]] 47) = w1
  have HB1 : Aside0 (Below w.heap.size w w1) := ⟨by rw [← hw1]; exact ((Below.refl _ _).alloc (Nat.le_refl _) _).alloc (by simp <;> omega) _⟩
  have HL1 : Aside0 (w1.heap.size = w.heap.size + 2) := ⟨by rw [← hw1]; simp⟩
  have HI1 : Aside0 (InvB k W H qk qf b w.heap.size (w.heap.size + 1) E w1) := ⟨hE.below HB1.out, by rw [← hw1, (MapKept.heap_alloc _ _).2 _ (by simp)]; simpa using heap_alloc_new w (.cells #[.int .i64 W, .int .i64 H, .int .i64 E] 25), by
    rw [← hw1]
    simpa using heap_alloc_new (w.alloc (.cells #[.int .i64 W, .int .i64 H, .int .i64 E] 25)) (.cells #[.func (.func 48) #[] #[.pointer (some ⟨qk, 0, none⟩), .pointer (some ⟨qf, 0, none⟩)]] 47)⟩
  obtain ⟨hcf, hc0, hc1, hc2, _⟩ := InvB.cells (And.intro HI1.out (grown_refl w1 (some b)))
  have hu := Try.underlying25
  have HL := Aside0.mk hl
  have HA := Aside0.mk h
  have HE := Aside0.mk hE
  have HB := Aside0.mk hB
  have HLB := Aside0.mk hb
  clear h hl hE hB hb
  go_enter Try.func27, Try.ntmps27
  go_wp2_with (first
    | (go_at_call 32; refine (impl_Boxes_free.calls W H E l _ HL.out).mono ?_; rintro e w2 ⟨v2, rfl, ho2, hb2⟩)
    | (go_at_call 54; refine (deleteFunc_inv 55 _ (enters_of Try.func55 (by kernel_rfl) rfl) (worseP k W H d E) (InvB k W H qk qf b w.heap.size (w.heap.size + 1) E) (some b) (fun k_ => w1.heap.size ≤ k_) _ l r w0 w2 (fun W1 W2 hi hg => invB_own HI1.out hi ho2 hg) (HI1.out.below hb2) (best_pred k W H d qk qf b w.heap.size (w.heap.size + 1) E) (fun k' e => by have := Option.some.inj e; have := HE.out.memo.lt; have := HLB.out; have := HL1.out; have := hb2.size; omega) (below_then HB.out HB.out.size (below_then HB1.out HB1.out.size hb2)) (own_lower ho2 (Nat.le_trans HB.out.size HB1.out.size)) HA.out).mono ?_; rintro e w3 ⟨v3, rfl, ho3, hb3, hk3, hi3⟩))
  go_ret
  refine ⟨_, rfl, Kd.R_mono ho3 (fun k' hk => by have := HL1.out; have := hb2.size; rcases hk with h | h <;> omega), hi3.1, ⟨hb3.os.trans HB.out.os.symm, hb3.tape.trans HB.out.tape.symm, hb3.output.trans HB.out.output.symm, by have := HL1.out; have := hb2.size; have := hk3.1; omega, fun i hi hn => ?_⟩⟩
  have := HL1.out
  have := hb2.size
  rw [hk3.2 i (by omega) (fun c => by rcases c with c | c; omega; exact hn c), hb2.block i (by omega)]
  exact HB1.out.block i hi
set_option linter.unusedSimpArgs false
set_option maxRecDepth 100000
set_option maxHeartbeats 4000000 in
theorem impl_BestEdges.calls (k : Nat) (W H E : Int) (r1 : List Int) (r2 : Int) (w : World) (h : impl_BestEdges.f k W H E = some (r1, r2)) :
    Calls Try.prog 8 #[.agg #[.int .i64 W, .int .i64 H, .int .i64 E]] w fun e w' => ∃ v0_ : Value, e = .returned (.tuple #[v0_, .int .i64 r2]) ∧ Kd.R (Kd.int .i64) 2 w' w.heap.size (fun _ => True) v0_ r1 ∧ Below w.heap.size w w' := by
  unfold impl_BestEdges.f at h
  obtain ⟨c, hc, h⟩ := Option.bind_eq_some_iff.1 h
  generalize hw1 : w.alloc (.cells #[.int .i64 W, .int .i64 H, .int .i64 E] 25) = w1
  have HK : Aside0 (HeldB w W H E w1) := ⟨by rw [← hw1]; simpa using heap_alloc_new w (.cells #[.int .i64 W, .int .i64 H, .int .i64 E] 25), by rw [← hw1]; exact (Below.refl _ _).alloc (Nat.le_refl _) _⟩
  obtain ⟨hc0, hc1, hc2, _⟩ := HK.out.cells
  have hu := Try.underlying25
  have HC := Aside0.mk hc
  clear hc
  by_cases e : c = 0
  · rw [if_pos e] at h
    subst e
    obtain ⟨l, hl, h⟩ := Option.bind_eq_some_iff.1 h
    simp only [Option.some.injEq, Prod.mk.injEq] at h
    obtain ⟨rfl, rfl⟩ := h
    have HL := Aside0.mk hl
    clear hl
    go_enter Try.func8, Try.ntmps8
    go_wp2_with (go_at_call 21; refine (impl_scoreCode.calls k W H E 0 _ HC.out).mono ?_; rintro e w2 ⟨rfl, hb2⟩)
    obtain ⟨hd0, hd1, hd2, HS⟩ := (heldB_below HK hb2).cells
    have hsz : w.heap.size ≤ w2.heap.size := HS.out.2.size
    go_region_held3 (fun w' => w'.cell? ⟨w.heap.size, 0, none⟩ = some (.int .i64 W) ∧ w'.cell? ⟨w.heap.size, 1, none⟩ = some (.int .i64 H) ∧ w'.cell? ⟨w.heap.size, 2, none⟩ = some (.int .i64 E) ∧ Aside0 (HeldB w W H E w'))
      (first
        | exact HS.out.drew.cells
        | (go_split_ands; exact (heldB_then (by assumption) hg4 he3.memo (Nat.le_trans hsz hlt)).cells)
        | (go_split_ands; exact (heldB_below (by assumption) hb3).cells))
      (first | (go_at_call 22; refine (scores_calls k W H _).mono ?_; rintro e w3 ⟨qk, qf, b, rfl, he3, hb3, hlt⟩) | (go_at_call 27; go_split_ands; refine (bestEdges_calls k W H 14 E l w _ qk qf b he3 (heldB_b (by assumption)) (Nat.le_trans hsz hlt) HL.out).mono ?_; rintro e w4 ⟨v4, rfl, ho4, he4, hg4⟩))
    go_wp2
    go_ret2
    rename_i hH
    exact ⟨_, rfl, Kd.R_mono ho4 (fun _ _ => trivial), hH.2.2.2.out.2⟩
  · rw [if_neg e] at h
    simp only [Option.some.injEq, Prod.mk.injEq] at h
    obtain ⟨rfl, rfl⟩ := h
    have hne : (c != 0) = true := by simpa using e
    go_enter Try.func8, Try.ntmps8
    go_wp2_with (go_at_call 21; refine (impl_scoreCode.calls k W H E c _ HC.out).mono ?_; rintro e w2 ⟨rfl, hb2⟩)
    go_ret2
    exact ⟨_, rfl, Kd.R_nil _ _ _ _ _, (heldB_below HK hb2).2⟩
end Go.Proofs.Ytelfllbjcpndfaa.Q
