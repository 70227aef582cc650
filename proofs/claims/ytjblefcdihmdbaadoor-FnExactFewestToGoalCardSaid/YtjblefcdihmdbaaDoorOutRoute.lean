/-
  impl.routeFrom, told as the printed functions are: the moves of the shortest way to a goal, out of the search's list. The rows within memory's reach, at most 1,000,000 moves.
-/
import Derived.Test.YtjblefcdihmdbaaDoorOutTour
import Derived.Test.YtjblefcdihmdbaaDoorLays2
import Derived.Test.YtjblefcdihmdbaaDoorQ4
namespace Go.Proofs.YtjblefcdihmdbaaDoor.Q
open Go.RowKit Go.Proofs.YtjblefcdihmdbaaDoorW.PrintWords Go.Proofs.YtjblefcdihmdbaaDoorW.PrintLast Go.Proofs.YtjblefcdihmdbaaDoorW.PrintMore
set_option linter.unusedVariables false

def goalP (l : List ByteArray) (q : Q4) : Option Bool := impl_isGoal.f l q.1 q.2.1 q.2.2.1 q.2.2.2
def wfG (q : Q4) : Bool := (Lit.int .i64 q.1).wf && ((Lit.int .i64 q.2.1).wf && ((Lit.int .i64 q.2.2.1).wf && (Lit.int .i64 q.2.2.2).wf))
theorem wfG_wf {q : Q4} (h : wfG q = true) : wfQ q := by
  simp only [wfG, Bool.and_eq_true] at h
  exact h
/-- The moves behind a trip, back to the first. -/
def pathF (ts : List Trip) : Nat → Trip → List Int → Option (List Int)
  | 0, _, _ => none
  | d + 1, t, out => if 0 ≤ t.f1 then if t.f1 < (ts.length : Int) then if out.length < 1000000 then pathF ts d (tripAt ts t.f1) (out ++ [t.f2]) else none else none else some out
theorem pathF_mono (ts : List Trip) (d : Nat) : ∀ t out, LeO (pathF ts d t out) (pathF ts (d + 1) t out) := by
  induction d with
  | zero => intro t out r h; cases h
  | succ d ih =>
    intro t out
    rw [show pathF ts (d + 1 + 1) t out = _ from pathF.eq_2 ts t out (d + 1), show pathF ts (d + 1) t out = _ from pathF.eq_2 ts t out d]
    exact LeO.ite (LeO.ite (LeO.ite (ih _ _) (LeO.refl _)) (LeO.refl _)) (LeO.refl _)
def impl_routeFrom.f (k : Nat) (l : List ByteArray) (c0 c1 c2 c3 : Int) : Option (List Int × Bool) := if wfG (c0, c1, c2, c3) = true then (tourF (goalP l) k l 1099511627776 k [trip0 c0 c1 c2 c3] 0).bind fun z => if z.2 < 0 then some ([], false) else if z.2 < (z.1.length : Int) then (pathF z.1 k (tripAt z.1 z.2) []).bind fun p => if p.length ≤ 1000000 then some (p.reverse, true) else none else none else none
theorem impl_routeFrom.mono : ∀ a0 a1 a2 a3 a4 k, LeO (impl_routeFrom.f k a0 a1 a2 a3 a4) (impl_routeFrom.f (k + 1) a0 a1 a2 a3 a4) := by
  intro a0 a1 a2 a3 a4 k
  unfold impl_routeFrom.f
  exact LeO.ite (LeO.bind (tourF_mono _ _ (fun _ => LeO.refl _) _ _ _ _ _ _) (fun z => LeO.ite (LeO.refl _) (LeO.ite (LeO.bind (pathF_mono _ _ _ _) (fun p => LeO.refl _)) (LeO.refl _)))) (LeO.refl _)

/-- A world behind a row's rewriting. -/
theorem rev_at {w : World} {g n : Nat} {cur : Array Value} {e : TypeId} (d : Array Int) (hh : w.heap[g]? = some (.cells cur e (0, 0))) :
    (Sort.putRow (Value.int .i64) (Sort.ahead w n) g 0 d).heap[g]? = some (.cells (Sort.putCells (Value.int .i64) 0 d cur) e (0, 0)) := by
  have hlt := (Array.getElem?_eq_some_iff.1 hh).1
  show (w.heap.modify g _)[g]? = _
  rw [Array.getElem?_modify, if_pos rfl, hh]
  rfl
theorem rev_grown {w : World} {g n : Nat} (d : Array Int) : w.grownBy (Sort.putRow (Value.int .i64) (Sort.ahead w n) g 0 d) (some g) :=
  ⟨rfl, rfl, rfl, by show _ ≤ (w.heap.modify g _).size; simp, fun k hk hne => by
    show (w.heap.modify g _)[k]? = w.heap[k]?
    rw [Array.getElem?_modify, if_neg (fun e => hne (by rw [e]))]⟩
theorem putCells_take (d : List Int) (cur : Array Value) (h : d.length ≤ cur.size) : (Sort.putCells (Value.int .i64) 0 d.toArray cur).toList.take d.length = d.map (Value.int .i64) := by
  apply List.ext_getElem?
  intro k
  rw [List.getElem?_take]
  split
  · rename_i hk
    unfold Sort.putCells
    rw [Array.getElem?_toList, Array.getElem?_mapIdx, List.getElem?_map]
    have h1 : k < cur.size := by omega
    rw [Array.getElem?_eq_getElem h1, List.getElem?_eq_getElem hk]
    simp [hk]
  · rename_i hk
    rw [List.getElem?_eq_none (by simp; omega)]
theorem holds_of {w : World} {g : Nat} {cur : Array Value} {e : TypeId} (l : List Int) (hh : w.heap[g]? = some (.cells cur e (0, 0))) (h : cur.toList.take l.length = l.map (Value.int .i64)) : Sort.Holds (Value.int .i64) w g 0 l.toArray := by
  intro j hj
  have hj2 : j < l.length := by simpa using hj
  refine ⟨?_, blk_frozen hh _⟩
  rw [Nat.zero_add, cell_of_row w g j cur e (0, 0) hh]
  have h1 : (cur.toList.take l.length)[j]? = (l.map (Value.int .i64))[j]? := by rw [h]
  rw [List.getElem?_take_of_lt hj2, List.getElem?_map, List.getElem?_eq_getElem hj2] at h1
  simpa [hj2] using h1
theorem reverse_calls (ok : Nat → Prop) (u : Value) (l : List Int) (w0 w : World) (hB : Below w0.heap.size w0 w) (ho : Kd.R (Kd.int .i64) 2 w w0.heap.size ok u l) (hl : l.length ≤ 1000000) :
    Calls Tryd.prog 77 #[u] w fun e w' => e = .returned (.tuple #[]) ∧ Kd.R (Kd.int .i64) 2 w' w0.heap.size ok u l.reverse ∧ Below w0.heap.size w0 w' := by
  have hown := Kd.own_of_R ho
  rcases hown.2 with ⟨hv, hz⟩ | ⟨g, cap, cur, hv, hb, hh, hnc, hcm, hcs, htake⟩
  · obtain rfl : l = [] := List.length_eq_zero_iff.1 hz
    subst hv
    refine (Tryd.slices_Reverse_int_empty none 0 w).mono ?_
    rintro e w1 ⟨rfl, rfl⟩
    exact ⟨rfl, by simpa using ho, hB⟩
  · subst hv
    rw [Nat.mul_one] at hcs htake
    have ht : cur.toList.take l.length = l.map (Value.int .i64) := by rw [htake]; simp [encs]
    have hg : ok g := ho.1 g rfl
    refine (Tryd.slices_Reverse_int g 0 cap l w (holds_of l hh ht) (by omega)).mono ?_
    rintro e w1 ⟨rfl, n, rfl⟩
    refine ⟨rfl, ?_, hB.grown (rev_grown _) (Nat.le_trans (Nat.le_refl _) hB.size) (fun k hk => by have := Option.some.inj hk; omega)⟩
    refine Kd.R_of_own ?_ (fun k hk => ?_)
    · rw [List.length_reverse]
      refine ⟨by rw [encs_length, List.length_reverse, Nat.mul_one], .inr ⟨g, cap, _, rfl, hb, rev_at _ hh, by omega, hcm, by rw [Nat.mul_one]; simp [Sort.putCells, hcs], ?_⟩⟩
      rw [Nat.mul_one]
      have h1 := putCells_take l.reverse cur (by rw [List.length_reverse]; omega)
      rw [List.length_reverse] at h1
      rw [h1]
      simp [encs]
    · have : k = g := by
        simp [Value.ownBlock] at hk
        first | exact hk | exact hk.symm
      rw [this]
      exact hg

theorem R_zero {w : World} {g base e : Nat} {ok : Nat → Prop} (h : w.heap[g]? = some (.cells #[] e (0, 0))) (hb : base ≤ g) (hok : ok g) : Kd.R (Kd.int .i64) e w base ok (.slice (some ⟨g, 0, none⟩) 0 0) [] :=
  ⟨fun k hk => by
    have : g = k := by simpa [Value.ownBlock] using hk
    subst this
    exact hok, [], ⟨rfl, .inr ⟨g, 0, #[], rfl, hb, h, Nat.le_refl _, by decide, rfl, rfl⟩⟩, Reps.none _ _⟩
/-- On the way back: the trip's variable beside the list, and the moves. -/
structure PathS (w0 : World) (vl : Value) (ts : List Trip) (g : Nat) (t : Trip) (vo : Value) (out : List Int) (w : World) : Prop where
  list : Kd.R k54 54 w w0.heap.size (fun kk => kk ≠ g) vl ts
  trip : w.heap[g]? = some (.cells #[.int .i64 t.f0.f0, .int .i64 t.f0.f1, .int .i64 t.f0.f2, .int .i64 t.f0.f3, .int .i64 t.f1, .int .i64 t.f2, .int .i64 t.f3] 54 (0, 0))
  own : Kd.R (Kd.int .i64) 2 w w0.heap.size (fun _ => True) vo out
  below : Below w0.heap.size w0 w
  ge : w0.heap.size ≤ g
section
variable {w0 w w' : World} {vl vo : Value} {ts : List Trip} {g : Nat} {t : Trip} {out : List Int}
theorem PathS.step (h : Aside0 (PathS w0 vl ts g t vo out w)) (hb : Below w.heap.size w w') : Aside0 (PathS w0 vl ts g t vo out w') := ⟨Kd.R_below h.out.list hb, blk_below h.out.trip hb, Kd.R_below h.out.own hb, below_then h.out.below h.out.below.size hb, h.out.ge⟩
theorem PathS.cells (h : Aside0 (PathS w0 vl ts g t vo out w)) : w.cell? ⟨g, 0, none⟩ = some (.int .i64 t.f0.f0) ∧ w.cell? ⟨g, 1, none⟩ = some (.int .i64 t.f0.f1) ∧ w.cell? ⟨g, 2, none⟩ = some (.int .i64 t.f0.f2) ∧ w.cell? ⟨g, 3, none⟩ = some (.int .i64 t.f0.f3) ∧ w.cell? ⟨g, 4, none⟩ = some (.int .i64 t.f1) ∧ w.cell? ⟨g, 5, none⟩ = some (.int .i64 t.f2) ∧ w.cell? ⟨g, 6, none⟩ = some (.int .i64 t.f3) :=
  ⟨blk_cell h.out.trip 0, blk_cell h.out.trip 1, blk_cell h.out.trip 2, blk_cell h.out.trip 3, blk_cell h.out.trip 4, blk_cell h.out.trip 5, blk_cell h.out.trip 6⟩
/-- Behind the append. -/
theorem PathS.more {v1 : Value} {l1 : List Int} (h : Aside0 (PathS w0 vl ts g t vo out w)) (ho : Kd.R (Kd.int .i64) 2 w' w0.heap.size (fun _ => True) v1 l1) (hb : Below w0.heap.size w0 w') (hg : w.grownBy w' vo.ownBlock) : Aside0 (PathS w0 vl ts g t v1 l1 w') :=
  ⟨Kd.R_over' h.out.list (Kd.R_typed h.out.own) (by decide) hg, blk_grown h.out.trip hg (fun e => Kd.R_ne h.out.own h.out.trip (by decide) e), ho, hb, h.out.ge⟩
/-- A new trip's variable. -/
theorem PathS.fresh (h : Aside0 (PathS w0 vl ts g t vo out w)) (u : Trip) : Aside0 (PathS w0 vl ts w.heap.size u vo out (w.alloc (.cells #[.int .i64 u.f0.f0, .int .i64 u.f0.f1, .int .i64 u.f0.f2, .int .i64 u.f0.f3, .int .i64 u.f1, .int .i64 u.f2, .int .i64 u.f3] 54))) := by
  obtain ⟨hb, hn⟩ := new_tripT (w := w) (tv := u) rfl
  have h2 := PathS.step h hb
  exact ⟨Kd.R_below (Kd.R_mono (Kd.R_bound h.out.list) (fun kk hk => by have := hk.2.2.1; omega)) hb, hn, h2.out.own, h2.out.below, h.out.below.size⟩
end
theorem route1_calls (gr : Nat) (A : Option Addr) (c : Nat) (l : List ByteArray) (q : Q4) (b : Bool) (W : World) (hr : Kd.C Kd.string W A l.length l) (hc : l.length ≤ c) (hg : W.heap[gr]? = some (.cells #[.slice A l.length c] 22 (0, 0))) (h : goalP l q = some b) :
    Calls Tryd.prog 76 (#[mkQ q] ++ #[.pointer (some ⟨gr, 0, none⟩)]) W fun e w' => e = .returned (.bool b) ∧ Below W.heap.size W w' := by
  obtain ⟨c0, c1, c2, c3⟩ := q
  rw [show (#[mkQ (c0, c1, c2, c3)] ++ #[.pointer (some ⟨gr, 0, none⟩)] : Array Value) = #[.agg #[.int .i64 c0, .int .i64 c1, .int .i64 c2, .int .i64 c3], .pointer (some ⟨gr, 0, none⟩)] from rfl]
  obtain ⟨hbn, p0, p1, p2, p3⟩ := new_car (w := W) (n0 := c0) (n1 := c1) (n2 := c2) (n3 := c3) rfl
  have q0 : (W.alloc (.cells #[.int .i64 c0, .int .i64 c1, .int .i64 c2, .int .i64 c3] 28)).cell? ⟨gr, 0, none⟩ = some (.slice A l.length c) := blk_cell (blk_below hg hbn) 0
  have hu := Tryd.underlying28
  have H := Aside0.mk h
  have HR := Aside0.mk (Kd.C_below hr hbn)
  have HB := Aside0.mk hbn
  clear hg h hr hbn
  generalize hw1 : W.alloc (.cells #[.int .i64 c0, .int .i64 c1, .int .i64 c2, .int .i64 c3] 28) = w1 at q0 p0 p1 p2 p3 HR HB
  go_enter Tryd.func76, Tryd.ntmps76
  go_wp2_with (go_at_call 34; refine (impl_isGoal.calls A c l c0 c1 c2 c3 b _ HR.out hc H.out).mono ?_; rintro e w' ⟨rfl, hb'⟩)
  go_ret
  exact ⟨rfl, below_then HB.out HB.out.size hb'⟩
set_option linter.unusedSimpArgs false
set_option maxRecDepth 100000
set_option maxHeartbeats 40000000 in
theorem impl_routeFrom.calls (k : Nat) (A0 : Option Addr) (c0 : Nat) (l0 : List ByteArray) (a1_0 a1_1 a1_2 a1_3 : Int) (r1 : List Int) (r2 : Bool) (w : World) (hr0 : Kd.C Kd.string w A0 l0.length l0) (hc0 : l0.length ≤ c0) (h : impl_routeFrom.f k l0 a1_0 a1_1 a1_2 a1_3 = some (r1, r2)) :
    Calls Tryd.prog 57 #[.slice A0 l0.length c0, .agg #[.int .i64 a1_0, .int .i64 a1_1, .int .i64 a1_2, .int .i64 a1_3]] w fun e w' => ∃ v0_ : Value, e = .returned (.tuple #[v0_, .bool r2]) ∧ Kd.R (Kd.int .i64) 2 w' w.heap.size (fun _ => True) v0_ r1 ∧ Below w.heap.size w w' := by
  unfold impl_routeFrom.f at h
  split at h
  rotate_left
  · cases h
  rename_i hwf
  obtain ⟨⟨ts, i⟩, hz, h⟩ := Option.bind_eq_some_iff.1 h
  simp only at h
  generalize hw1 : (w.alloc (.cells #[.slice A0 l0.length c0] 22)).alloc (.cells #[.int .i64 a1_0, .int .i64 a1_1, .int .i64 a1_2, .int .i64 a1_3] 28) = w1
  have HS1 := OpenS.box hr0 hw1
  obtain ⟨q0, q1, q2, q3, q4⟩ := OpenS.cells HS1
  have HC : Aside0 (Calls Tryd.prog 23 #[.slice A0 l0.length c0, .agg #[.int .i64 a1_0, .int .i64 a1_1, .int .i64 a1_2, .int .i64 a1_3], .int .i64 1099511627776, .func (.func 76) #[] #[.pointer (some ⟨w.heap.size, 0, none⟩)]] w1 fun e w' => ∃ v : Value, e = .returned (.tuple #[v, .int .i64 i]) ∧ Kd.R k54 54 w' w1.heap.size (fun _ => True) v ts ∧ Below w1.heap.size w1 w') :=
    ⟨tour_calls 76 _ (enters_of Tryd.func76 (by kernel_rfl) rfl) (goalP l0) k k A0 c0 l0 a1_0 a1_1 a1_2 a1_3 1099511627776 ts i w1 (fun q r W hq hW => by
      have HW := OpenS.step HS1 hW
      exact route1_calls _ A0 c0 l0 q r W HW.out.reads hc0 HW.out.row hq) HS1.out.reads hc0 (wfG_wf hwf) hz⟩
  have hu := Tryd.underlying28
  have hut := Tryd.underlying54
  clear hz hr0
  by_cases ci : i < 0
  · rw [if_pos ci] at h
    simp only [Option.some.injEq, Prod.mk.injEq] at h
    obtain ⟨rfl, rfl⟩ := h
    go_enter Tryd.func57, Tryd.ntmps57
    go_wp2_with (go_at_call 23; refine HC.out.mono ?_; rintro e w2 ⟨v2, rfl, ho2, hb2⟩)
    go_ret2
    exact ⟨_, rfl, Kd.R_nil _ _ _ _ _, (OpenS.step HS1 hb2).out.below⟩
  · rw [if_neg ci] at h
    split at h
    rotate_left
    · cases h
    rename_i ci2
    obtain ⟨p, hp, h⟩ := Option.bind_eq_some_iff.1 h
    split at h
    rotate_left
    · cases h
    rename_i hpl
    simp only [Option.some.injEq, Prod.mk.injEq] at h
    obtain ⟨rfl, rfl⟩ := h
    have HP := Aside0.mk hp
    clear hp
    have h0 : 0 ≤ i := by omega
    go_enter Tryd.func57, Tryd.ntmps57
    go_wp2_with (go_at_call 23; refine HC.out.mono ?_; rintro e w2 ⟨v2, rfl, ho2, hb2⟩; generalize hw5 : w2.alloc (.cells #[] 2) = w5; have hb5 : Below w2.heap.size w2 w5 := (by rw [← hw5]; exact (Below.refl _ _).alloc (Nat.le_refl _) _); have hr5 : w5.heap[w2.heap.size]? = some (.cells #[] 2 (0, 0)) := (by rw [← hw5]; exact (MapKept.heap_alloc w2 _).1); have ho5 := Kd.R_below (Kd.R_lower ho2 HS1.out.below.size) hb5; have HS5 := OpenS.step (OpenS.step HS1 hb2) hb5; obtain ⟨A2, xc, e2⟩ := Kd.R_slice ho5; subst e2; obtain ⟨ad, ead, x0, x1, x2, x3, x4, x5, x6⟩ := at_T54 (Kd.R_reads' ho5).2.2 i h0 ci2; cases ead; generalize htv : rd_T54 ts i = tv at x0 x1 x2 x3 x4 x5 x6; have htv2 : tripAt ts i = tv := htv; rw [htv2] at HP)
    have HP5 : Aside0 (PathS w (.slice (some ad) ts.length xc) ts w5.heap.size tv (.slice (some ⟨w2.heap.size, 0, none⟩) 0 0) [] (w5.alloc (.cells #[.int .i64 tv.f0.f0, .int .i64 tv.f0.f1, .int .i64 tv.f0.f2, .int .i64 tv.f0.f3, .int .i64 tv.f1, .int .i64 tv.f2, .int .i64 tv.f3] 54))) := by
      obtain ⟨hbt, hnt⟩ := new_tripT (w := w5) (tv := tv) rfl
      exact ⟨Kd.R_below (Kd.R_mono (ok' := fun kk => kk ≠ w5.heap.size) (Kd.R_bound ho5) (fun kk hk => by have := hk.2.2.1; omega)) hbt, hnt, R_zero (blk_below hr5 hbt) (OpenS.step HS1 hb2).out.below.size trivial, (OpenS.step HS5 hbt).out.below, HS5.out.below.size⟩
    go_loopg [8, 9] k (fun gk v8 v9 wr => ∃ (g : Nat) (t : Trip) (out : List Int), v9 = .pointer (some ⟨g, 0, none⟩) ∧ Aside0 (pathF ts gk t out = some p) ∧ Aside0 (PathS w (.slice (some ad) ts.length xc) ts g t v8 out wr))
    case atStart => exact ⟨_, tv, [], rfl, HP, HP5⟩
    case round =>
      clear HP HP5 x0 x1 x2 x3 x4 x5 x6 hr5 hb5 ho5 HS5 ho2 hb2 q0 q1 q2 q3 q4 HS1 HC
      obtain ⟨g, t, out, rfl, HA, HPS⟩ := hrel
      cases gk with
      | zero => exact absurd HA.out (by simp [pathF])
      | succ d1 =>
        have hA := HA.out
        clear HA
        simp only [pathF] at hA
        obtain ⟨z0, z1, z2, z3, z4, z5, z6⟩ := PathS.cells HPS
        obtain ⟨A10, x10, e10⟩ := Kd.R_slice HPS.out.own
        subst e10
        by_cases c1 : 0 ≤ t.f1
        · rw [if_pos c1] at hA
          split at hA
          rotate_left
          · cases hA
          rename_i c2
          split at hA
          rotate_left
          · cases hA
          rename_i c3
          have HA2 := Aside0.mk hA
          clear hA
          have hinfo2 : (Tryd.prog.info? 2).map (fun i => (i.zero, i.size, i.bytes)) = some (some (.int .i64 0), 1, 8) := by kernel_rfl
          go_wp2_with (at_builtin; refine Kd.R_append (Kd.int .i64) (w0 := w) w.heap.size rfl (.tmp 32) (.tmp 35) 56 2 (.int .i64 0) 8 rfl Tryd.underlying56 hinfo2 rfl (by decide) (by omega) (.slice A10 out.length x10) out t.f2 [.int .i64 t.f2] (fun _ => True) (fun _ => False) rfl rfl ?aP (fun _ hk => hk.elim) ?aF ?aO ?aB ?aS ?aL ?_; (case aP => exact rfl); (case aB => exact HPS.out.below); (case aF => exact (fun _ _ => trivial)); (case aO => exact HPS.out.own); (case aS => exact HPS.out.below.size); (case aL => omega); intro v6 w6 ho6 hb6 hg6 _; have HP6 := PathS.more HPS ho6 hb6 hg6; obtain ⟨y0, y1, y2, y3, y4, y5, y6⟩ := PathS.cells HP6; have HP7 := PathS.fresh HP6 t; obtain ⟨u0, u1, u2, u3, u4, u5, u6⟩ := PathS.cells HP7; obtain ⟨ad1, ead1, x0, x1, x2, x3, x4, x5, x6⟩ := at_T54 (Kd.R_reads' HP7.out.list).2.2 t.f1 c1 c2; cases ead1; generalize htu : rd_T54 ts t.f1 = tu at x0 x1 x2 x3 x4 x5 x6; have htu2 : tripAt ts t.f1 = tu := htu; rw [htu2] at HA2)
          go_roundg d1
          case measure => omega
          case rel => exact ⟨_, tu, _, rfl, HA2, PathS.fresh HP6 tu⟩
        · rw [if_neg c1] at hA
          obtain rfl := Option.some.inj hA
          go_wp2_with (go_at_call 77; refine (reverse_calls (fun _ => True) _ out w wr HPS.out.below HPS.out.own hpl).mono ?_; rintro e w7 ⟨rfl, ho7, hb7⟩)
          go_ret2
          exact ⟨_, rfl, ho7, hb7⟩
end Go.Proofs.YtjblefcdihmdbaaDoor.Q
