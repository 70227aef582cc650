/-
  PlayRace: the code, or the first best nodes one behind the other; told as the printed functions are.
-/
import Derived.Test.YtbmkhdeeengbmaaRace
import Derived.Test.YtbmkhdeeengbmaaQ3
namespace Go.Proofs.Ytbmkhdeeengbmaa.Q
open Go.RowKit Go.Proofs.YtbmkhdeeengbmaaW.PrintWords Go.Proofs.YtbmkhdeeengbmaaW.PrintLast Go.Proofs.YtbmkhdeeengbmaaW.PrintMore
open Go.Maps (Keyed)

/-- The play from a state, behind the nodes acc; at most d nodes more. -/
def playL (k : Nat) (n : Int) (L : List Int) : Nat → Int → Int → List Int → Option (List Int)
  | 0, _, _, _ => none
  | d + 1, o, t, acc => (impl_Board_filled.f k n L t).bind fun q => if q = 0 then (impl_Board_free.f n L o t).bind fun l => if l.length = 0 then some acc else (bestF k n L 20 o t).bind fun m => if 0 < m.length ∧ 0 ≤ rd m 0 ∧ acc.length ≤ 100 then playL k n L d t (withN o (rd m 0)) (acc ++ [rd m 0]) else none else some acc
theorem playL_mono (n : Int) (L : List Int) (d : Nat) : ∀ (k : Nat) (o t : Int) (acc : List Int), LeO (playL k n L d o t acc) (playL (k + 1) n L d o t acc) := by
  induction d with
  | zero => intro k o t acc; exact LeO.refl _
  | succ d ih =>
    intro k o t acc
    exact LeO.bind (impl_Board_filled.mono _ _ _ k) (fun q => LeO.ite (LeO.bind (LeO.refl _) (fun l => LeO.ite (LeO.refl _) (LeO.bind (bestF_mono _ _ _ _ _ _) (fun m => LeO.ite (ih _ _ _ _) (LeO.refl _))))) (LeO.refl _))
def impl_PlayRace.f (k : Nat) (n : Int) (L : List Int) : Option (List Int × Int) := (impl_IsBoard.f k n L).bind fun b => (impl_first.f k [⟨b, 1⟩, ⟨decide (n ≤ 9), 3⟩]).bind fun c => if c = 0 then (playL k n L 40 0 0 []).bind fun r => some (r, 0) else some (([] : List Int), c)
theorem impl_PlayRace.mono : ∀ a0 a1 k, LeO (impl_PlayRace.f k a0 a1) (impl_PlayRace.f (k + 1) a0 a1) := by
  intro a0 a1 k
  exact LeO.bind (impl_IsBoard.mono _ _ k) (fun b => LeO.bind (impl_first.mono _ k) (fun c => LeO.ite (LeO.bind (playL_mono _ _ _ k _ _ _) (fun r => LeO.refl _)) (LeO.refl _)))
/-- The loop's world: the function's variables, the board's and the state's variables, and the row of nodes. -/
structure LoopP (k : Nat) (n : Int) (A : Option Addr) (c : Nat) (L : List Int) (qk qb qf b gs : Nat) (w0 : World) (o t : Int) (vo : Value) (acc : List Int) (w : World) : Prop where
  env : EnvR k n A c L qk qb qf b w
  bb : w0.heap.size ≤ b
  gg : w0.heap.size ≤ gs
  held : HeldB w0 n A c L w
  st : w.heap[gs]? = some (.cells #[.int .i64 o, .int .i64 t] 46 (0, 0))
  out : Kd.R (Kd.int .i64) 2 w w0.heap.size (fun _ => True) vo acc
section
variable {k : Nat} {n : Int} {A : Option Addr} {c : Nat} {L : List Int} {qk qb qf b gs : Nat} {w0 w w' : World} {o t : Int} {vo : Value} {acc : List Int}
theorem LoopP.below (h : Aside0 (LoopP k n A c L qk qb qf b gs w0 o t vo acc w)) (hb : Below w.heap.size w w') : Aside0 (LoopP k n A c L qk qb qf b gs w0 o t vo acc w') :=
  ⟨⟨h.out.env.below hb, h.out.bb, h.out.gg, heldB_below ⟨h.out.held⟩ hb, blk_below h.out.st hb, Kd.R_below h.out.out hb⟩⟩
theorem LoopP.grown (h : Aside0 (LoopP k n A c L qk qb qf b gs w0 o t vo acc w)) (he : EnvR k n A c L qk qb qf b w') (hg : w.grownBy w' (some b)) : Aside0 (LoopP k n A c L qk qb qf b gs w0 o t vo acc w') :=
  ⟨⟨he, h.out.bb, h.out.gg, heldB_then ⟨h.out.held⟩ hg h.out.env.memo h.out.bb, blk_grown h.out.st hg (h.out.env.memo.ne h.out.st), Kd.R_mono (Kd.R_grown (Kd.R_bound h.out.out) hg (fun k hk e => by
    obtain ⟨_, _, _, q, hq, cells, hc⟩ := hk
    exact h.out.env.memo.ne hc e)) (fun _ _ => trivial)⟩⟩
theorem EnvR.row' (h : EnvR k n A c L qk qb qf b w) {base : Nat} {ok : Nat → Prop} (ho : Kd.R (Kd.int .i64) 2 w base ok vo acc) (hg : w.grownBy w' vo.ownBlock) (hr : RowAt b A L w') : EnvR k n A c L qk qb qf b w' :=
  ⟨blk_grown h.known hg (Kd.R_ne ho h.known (by decide)), blk_grown h.board hg (Kd.R_ne ho h.board (by decide)), blk_grown h.find hg (Kd.R_ne ho h.find (by decide)), h.memo.kept hg (fun e => by
    obtain ⟨cells, hc⟩ := Kd.R_typed ho b e.symm
    exact h.memo.ne hc rfl), hr⟩
end
theorem rowAt_of {w0 w : World} {n : Int} {A : Option Addr} {c : Nat} {L : List Int} {b : Nat} (h : HeldB w0 n A c L w) (hb : w0.heap.size ≤ b) : RowAt b A L w := by
  obtain ⟨u, hu, hc, hk⟩ := h.2.2
  exact ⟨u, Nat.le_trans hu hb, hc, hk⟩
theorem HeldB.row {w0 w w' : World} {n : Int} {A : Option Addr} {c : Nat} {L : List Int} {o : Option Nat} (h : HeldB w0 n A c L w) (hg : w.grownBy w' o) (hb : Below w0.heap.size w0 w') (hne : o ≠ some w0.heap.size) (hlo : ∀ i, o = some i → w0.heap.size ≤ i) : HeldB w0 n A c L w' :=
  ⟨blk_grown h.1 hg (fun e => hne e.symm), hb, h.2.2.step (fun i hi hl => hg.block i hl (fun e => by have := hlo i e.symm; omega)) h.2.1.size⟩
theorem set2_grown (w : World) (g : Nat) (a b : Value) : w.grownBy ((w.setCell ⟨g, 0, none⟩ a).setCell ⟨g, 1, none⟩ b) (some g) :=
  ⟨rfl, rfl, rfl, by simp, fun k hk hn => by rw [Below.heap_setCell _ _ _ _ (fun e => hn (by rw [e])), Below.heap_setCell _ _ _ _ (fun e => hn (by rw [e]))]⟩
theorem LoopP.put {k : Nat} {n : Int} {A : Option Addr} {c : Nat} {L : List Int} {qk qb qf b gs : Nat} {w0 w : World} {o t : Int} {vo : Value} {acc : List Int} (h : Aside0 (LoopP k n A c L qk qb qf b gs w0 o t vo acc w)) (o2 t2 : Int) :
    Aside0 (LoopP k n A c L qk qb qf b gs w0 o2 t2 vo acc ((w.setCell ⟨gs, 0, none⟩ (.int .i64 o2)).setCell ⟨gs, 1, none⟩ (.int .i64 t2))) := by
  have hg := set2_grown w gs (.int .i64 o2) (.int .i64 t2)
  have hs := blk_set (blk_set h.out.st 0 (.int .i64 o2)) 1 (.int .i64 t2)
  have hh := h.out.held.row hg (below_set (below_set h.out.held.2.1 h.out.gg) h.out.gg) (fun e => blk_ne h.out.held.1 h.out.st (by decide) (Option.some.inj e).symm) (fun i e => by have := Option.some.inj e; have := h.out.gg; omega)
  exact ⟨⟨⟨blk_grown h.out.env.known hg (fun e => blk_ne h.out.env.known h.out.st (by decide) (Option.some.inj e)), blk_grown h.out.env.board hg (fun e => blk_ne h.out.env.board h.out.st (by decide) (Option.some.inj e)), blk_grown h.out.env.find hg (fun e => blk_ne h.out.env.find h.out.st (by decide) (Option.some.inj e)), h.out.env.memo.kept hg (fun e => h.out.env.memo.ne h.out.st e.symm), rowAt_of hh h.out.bb⟩,
    h.out.bb, h.out.gg, hh, by simpa using hs, Kd.R_mono (Kd.R_grown (Kd.R_types h.out.out h.out.st (by decide)) hg (fun k hk e => hk.2 (Option.some.inj e))) (fun _ _ => trivial)⟩⟩
theorem LoopP.fresh {k : Nat} {n : Int} {A : Option Addr} {c : Nat} {L : List Int} {qk qb qf b gs gs2 : Nat} {w0 w w' : World} {o t o2 t2 : Int} {vo : Value} {acc : List Int} (h : Aside0 (LoopP k n A c L qk qb qf b gs w0 o t vo acc w)) (hb : Below w.heap.size w w') (hs : w'.heap[gs2]? = some (.cells #[.int .i64 o2, .int .i64 t2] 46 (0, 0))) (hg : w0.heap.size ≤ gs2) : Aside0 (LoopP k n A c L qk qb qf b gs2 w0 o2 t2 vo acc w') := by
  have h2 := LoopP.below h hb
  exact ⟨⟨h2.out.env, h2.out.bb, hg, h2.out.held, hs, h2.out.out⟩⟩
theorem R_zero {w : World} {g base e : Nat} {ok : Nat → Prop} (h : w.heap[g]? = some (.cells #[] e (0, 0))) (hb : base ≤ g) (hok : ok g) : Kd.R (Kd.int .i64) e w base ok (.slice (some ⟨g, 0, none⟩) 0 0) [] :=
  ⟨fun k hk => by
    have : g = k := by simpa [Value.ownBlock] using hk
    subst this
    exact hok, [], ⟨rfl, .inr ⟨g, 0, #[], rfl, hb, h, Nat.le_refl _, by decide, rfl, rfl⟩⟩, Reps.none _ _⟩
def codeTP : Bool × List (List Nat × List Nat) := (true, [([], []), ([0], [0]), ([1], [1]), ([], []), ([3], [3]), ([4], [4]), ([5], [5]), ([2, 6], [2, 6]), ([7, 1], [7]), ([8, 8, 0, 1, 2, 3, 4, 5, 6, 7, 8], [8])])
def codeBP : List Nat := [0, 1, 3, 0, 8, 24, 56, 127, 255, 511]
theorem codeT_tabP : rtab .any (opsOf Try.f14 1) = codeTP := by kernel_rfl
theorem codeT_bitsP : waitsOk codeTP.2 codeBP = true := by kernel_rfl
set_option linter.unusedSimpArgs false
set_option maxRecDepth 100000
set_option maxHeartbeats 8000000 in
theorem impl_PlayRace.calls (k : Nat) (n : Int) (A : Option Addr) (cap : Nat) (L : List Int) (r1 : List Int) (r2 : Int) (w : World) (hC : Kd.C (Kd.int .i64) w A L.length L) (hc : L.length ≤ cap) (h : impl_PlayRace.f k n L = some (r1, r2)) :
    Calls Try.prog 14 #[.agg #[.int .i64 n, .slice A L.length cap]] w fun e w' => ∃ v0_ : Value, e = .returned (.tuple #[v0_, .int .i64 r2]) ∧ Kd.R (Kd.int .i64) 2 w' w.heap.size (fun _ => True) v0_ r1 ∧ Below w.heap.size w w' := by
  unfold impl_PlayRace.f at h
  obtain ⟨isb, hisb, h⟩ := Option.bind_eq_some_iff.1 h
  obtain ⟨ys, hys⟩ : ∃ y_ : List (S57), y_ = ([(⟨isb, 1⟩ : S57), (⟨decide (n ≤ 9), 3⟩ : S57)] : List (S57)) := ⟨_, rfl⟩
  rw [← hys] at h
  obtain ⟨code, hcode, h⟩ := Option.bind_eq_some_iff.1 h
  generalize hw1 : w.alloc (.cells #[.int .i64 n, .slice A L.length cap] 26) = w1
  have HK := heldB_new hw1 hC
  obtain ⟨hc0, hc1, _⟩ := HK.out.cells
  have hu := Try.underlying26
  have hu2 := Try.underlying46
  have hu3 := Try.underlying57
  have A3 := Aside0.mk hisb
  have A5 := Aside0.mk hcode
  have Ny := Aside0.mk hys
  have HCAP := Aside0.mk hc
  clear hisb hcode hys hC hc
  by_cases e : code = 0
  · rw [if_pos e] at h
    subst e
    obtain ⟨x, hx, h⟩ := Option.bind_eq_some_iff.1 h
    simp only [Option.some.injEq, Prod.mk.injEq] at h
    obtain ⟨rfl, rfl⟩ := h
    have HX := Aside0.mk hx
    clear hx
    go_enter Try.func14, Try.ntmps14
    go_wp2_with fail
    have HKd : Aside0 (HeldB w n A cap L w1.drew) := ⟨HK.out.drew⟩
    refine start_ (n := 10) (S := (fun w' => w'.cell? ⟨w.heap.size, 0, none⟩ = some (.int .i64 n) ∧ w'.cell? ⟨w.heap.size, 1, none⟩ = some (.slice A L.length cap))) (ds := []) #[false, false, false, false, false, false, false, false, false, false] (by kernel_rfl) rfl rfl ⟨HKd.out.cells.1, HKd.out.cells.2.1⟩ (fun hHeld => ?_); refine with_tabW codeT_tabP codeT_bitsP (fun HT_ HW_ => ?_)
    generalize w1.drew = w2 at HKd hHeld ⊢
    refine pure_ (i := 3) (N := some 12) (v := ?_) (a' := ?_) #[false, false, false, true, false, false, false, false, false, false] rfl rfl (any_of HT_.out (by kernel_rfl)) (fun _ _ _ h => h) (Or.inl ⟨by rfl, ?_⟩) ?_ ?_
    rotate_left
    · intro w'
      go_simp
      with_reducible rfl
    rotate_left
    · simp only [Act.put, List.setIfInBounds_toArray, List.set_cons_zero, List.set_cons_succ, i64_w, i32_w]
      rfl
    refine take_ (i := 0) (N := some 9) (v := ?_) (a' := ?_) #[true, false, false, true, false, false, false, false, false, false] rfl rfl (take_ofW HT_.out HW_.out (by kernel_rfl)) (fun _ _ _ h => h) (Or.inl ⟨by rfl, ?_⟩) hHeld ?_ ?_
    rotate_left
    · rintro w' ⟨s0, s1⟩
      go_simp
      with_reducible rfl
    rotate_left
    · simp only [Act.put, List.setIfInBounds_toArray, List.set_cons_zero, List.set_cons_succ, i64_w, i32_w]
      rfl
    refine take_ (i := 4) (N := some 13) (v := ?_) (a' := ?_) #[true, false, false, true, true, false, false, false, false, false] rfl rfl (take_ofW HT_.out HW_.out (by kernel_rfl)) (fun _ _ _ h => h) (Or.inl ⟨by rfl, ?_⟩) hHeld ?_ ?_
    rotate_left
    · rintro w' ⟨s0, s1⟩
      go_simp
      with_reducible rfl
    rotate_left
    · simp only [Act.put, List.setIfInBounds_toArray, List.set_cons_zero, List.set_cons_succ, i64_w, i32_w]
      rfl
    refine pure_ (i := 5) (N := some 14) (v := ?_) (a' := ?_) #[true, false, false, true, true, true, false, false, false, false] rfl rfl (any_of HT_.out (by kernel_rfl)) (fun _ _ _ h => h) (Or.inl ⟨by rfl, ?_⟩) ?_ ?_
    rotate_left
    · intro w'
      go_simp
      with_reducible rfl
    rotate_left
    · simp only [Act.put, List.setIfInBounds_toArray, List.set_cons_zero, List.set_cons_succ, i64_w, i32_w]
      rfl
    refine pure_ (i := 6) (N := some 15) (v := ?_) (a' := ?_) #[true, false, false, true, true, true, true, false, false, false] rfl rfl (any_of HT_.out (by kernel_rfl)) (fun _ _ _ h => h) (Or.inl ⟨by rfl, ?_⟩) ?_ ?_
    rotate_left
    · intro w'
      go_simp
      with_reducible rfl
    rotate_left
    · simp only [Act.put, List.setIfInBounds_toArray, List.set_cons_zero, List.set_cons_succ, i64_w, i32_w]
      rfl
    refine one_ (i := 1) (N := some 10) #[true, true, false, true, true, true, true, false, false, false] rfl rfl (one_of HT_.out (by kernel_rfl)) (by decide) (fun K hK => ?_)
    refine goes_ Try.func33 (by kernel_rfl) rfl #[.agg #[.int .i64 n, .slice A L.length cap]] (by rfl) rfl rfl (by (try simp only [List.map_toArray, List.map_cons, List.map_nil]); first | done | rfl) ?_
    refine (impl_IsBoard.calls k n _ _ L isb _ (heldB_row HKd) HCAP.out A3.out).mono ?_
    rintro e w4 ⟨rfl, hb4⟩
    refine ⟨_, rfl, ?_⟩
    have HK4 := Aside0.mk (heldB_below HKd hb4)
    refine hK.out _ _ ⟨HK4.out.cells.1, HK4.out.cells.2.1⟩ (fun hHeld => ?_)
    clear hK K
    refine norm_ (a' := ?_) ?_ ?_
    rotate_left
    · show Act.put _ (some 10) _ = _
      simp only [Act.put, List.setIfInBounds_toArray, List.set_cons_zero, List.set_cons_succ, i64_w, i32_w]
      rfl
    refine pure_ (i := 2) (N := some 11) (v := ?_) (a' := ?_) #[true, true, true, true, true, true, true, false, false, false] rfl rfl (any_of HT_.out (by kernel_rfl)) (fun _ _ _ h => h) (Or.inl ⟨by rfl, ?_⟩) ?_ ?_
    rotate_left
    · intro w'
      go_simp
      with_reducible rfl
    rotate_left
    · simp only [Act.put, List.setIfInBounds_toArray, List.set_cons_zero, List.set_cons_succ, i64_w, i32_w]
      rfl
    refine one_ (i := 7) (N := some 16) #[true, true, true, true, true, true, true, true, false, false] rfl rfl (one_of HT_.out (by kernel_rfl)) (by decide) (fun K hK => ?_)
    refine Kd.R_lit_step k57 _ 57 ?hg (N := 16) ?hd (xs := ([(⟨isb, 1⟩ : S57), (⟨decide (n ≤ 9), 3⟩ : S57)] : List (S57))) (inner := [.bool isb, .int .i64 1, .bool (decide (n ≤ 9)), .int .i64 3]) (ok := fun _ => True) (okp := fun _ => True) ?hr ?hp (fun _ hk => hk) trivial (Below.refl _ _) (Nat.le_refl _) (by simp) ?_; (case hd => rfl); (case hg => rfl); (case hr => first | (go_simp; done) | (go_simp; rfl)); (case hp => exact (Reps.c2 (show Kd.M k57 _ _ _ (⟨isb, 1⟩ : S57) [.bool isb, .int .i64 1] from (k57_mkM _ _ _ (⟨isb, 1⟩ : S57) )) (Reps.c2 (show Kd.M k57 _ _ _ (⟨decide (n ≤ 9), 3⟩ : S57) [.bool (decide (n ≤ 9)), .int .i64 3] from (k57_mkM _ _ _ (⟨decide (n ≤ 9), 3⟩ : S57) )) (Reps.none _ _))))
    intro v5 w5 ho5 hb5 hg_ hnew_
    clear hg_ hnew_
    rw [← Ny.out] at ho5
    have HK5 := Aside0.mk (heldB_below HK4 hb5)
    have HO5 := Aside0.mk ho5
    clear ho5 hb5
    obtain ⟨Ao5, co5, eo5⟩ := Kd.R_slice HO5.out
    subst eo5
    refine hK.out _ _ ⟨HK5.out.cells.1, HK5.out.cells.2.1⟩ (fun hHeld => ?_)
    clear hK K
    refine norm_ (a' := ?_) ?_ ?_
    rotate_left
    · show Act.put _ (some 16) _ = _
      simp only [Act.put, List.setIfInBounds_toArray, List.set_cons_zero, List.set_cons_succ, i64_w, i32_w]
      rfl
    refine one_ (i := 8) (N := some 17) #[true, true, true, true, true, true, true, true, true, false] rfl rfl (one_of HT_.out (by kernel_rfl)) (by decide) (fun K hK => ?_)
    refine goes_ Try.func32 (by kernel_rfl) rfl #[.slice Ao5 ys.length co5] (by rfl) rfl rfl (by (try simp only [List.map_toArray, List.map_cons, List.map_nil]); first | done | rfl) ?_
    refine (impl_first.calls k _ _ ys 0 _ (Kd.R_reads' HO5.out).2.2 (Kd.R_reads' HO5.out).2.1 A5.out).mono ?_
    rintro e w6 ⟨rfl, hb6⟩
    refine ⟨_, rfl, ?_⟩
    have HK6 := Aside0.mk (heldB_below HK5 hb6)
    clear hb6
    refine hK.out _ _ ⟨HK6.out.cells.1, HK6.out.cells.2.1⟩ (fun hHeld => ?_)
    clear hK K
    refine norm_ (a' := ?_) ?_ ?_
    rotate_left
    · show Act.put _ (some 17) _ = _
      simp only [Act.put, List.setIfInBounds_toArray, List.set_cons_zero, List.set_cons_succ, i64_w, i32_w]
      rfl
    refine pure_ (i := 9) (N := some 4) (v := ?_) (a' := ?_) #[true, true, true, true, true, true, true, true, true, true] rfl rfl (any_of HT_.out (by kernel_rfl)) (fun _ _ _ h => h) (Or.inl ⟨by rfl, ?_⟩) ?_ ?_
    rotate_left
    · intro w'
      go_simp
      with_reducible rfl
    rotate_left
    · simp only [Act.put, List.setIfInBounds_toArray, List.set_cons_zero, List.set_cons_succ, i64_w, i32_w]
      rfl
    refine done_ (done_of HT_.out (by kernel_rfl)) ?_
    clear HK4 HK5 HKd HO5 HT_ HW_ hHeld
    obtain ⟨hd0, hd1, _⟩ := HK6.out.cells
    have hsz : w.heap.size ≤ w6.heap.size := HK6.out.2.1.size
    go_wp2_with (first
      | (go_at_call 21; refine (results_calls k n A cap L _ (heldB_row HK6)).mono ?_; rintro e w7 ⟨qk, qb, qf, b, rfl, he7, hb7, hlt⟩; unfold fnR; have HK7 := Aside0.mk (heldB_below HK6 hb7)))
    obtain ⟨ha0, ha1, ha2⟩ := allocs2 w7 (.cells #[] 2) (.cells #[.int .i64 0, .int .i64 0] 46)
    generalize (w7.alloc (.cells #[] 2)).alloc (.cells #[.int .i64 0, .int .i64 0] 46) = w9 at ha0 ha1 ha2 ⊢
    have HP9 : Aside0 (LoopP k n A cap L qk qb qf b (w7.heap.size + 1) w 0 0 (.slice (some ⟨w7.heap.size, 0, none⟩) 0 0) [] w9) := ⟨⟨he7.below ha2, Nat.le_trans hsz hlt, by have := HK7.out.2.1.size; omega, heldB_below HK7 ha2, ha1, R_zero ha0 HK7.out.2.1.size trivial⟩⟩
    clear ha0 ha1 ha2 he7 hb7 hlt HK7 HK6 hd0 hd1 hsz hw1 hc0 hc1 HK A3 A5 Ny h
    go_loopg [6, 7, 8] 40 (fun gg' s6 s7 _ wr => ∃ (vo : Value) (gs : Nat) (o t : Int) (acc : List Int), s6 = vo ∧ s7 = .pointer (some ⟨gs, 0, none⟩) ∧ Aside0 (LoopP k n A cap L qk qb qf b gs w o t vo acc wr) ∧ Aside0 (playL k n L gg' o t acc = some x))
    case atStart => exact ⟨_, _, 0, 0, [], rfl, rfl, HP9, HX⟩
    case round =>
      obtain ⟨vo, gs, o, t, acc, rfl, rfl, HP, HA⟩ := hrel
      clear HX HP9
      obtain ⟨Ao, co, rfl, hco, _⟩ := Kd.R_reads HP.out.out
      have hc0 : wr.cell? ⟨w.heap.size, 0, none⟩ = some (.int .i64 n) := HP.out.held.cells.1
      have hc1 : wr.cell? ⟨w.heap.size, 1, none⟩ = some (.slice A L.length cap) := HP.out.held.cells.2.1
      have hs0 : wr.cell? ⟨gs, 0, none⟩ = some (.int .i64 o) := blk_cell HP.out.st 0
      have hs1 : wr.cell? ⟨gs, 1, none⟩ = some (.int .i64 t) := blk_cell HP.out.st 1
      cases gk with
      | zero => exact absurd HA.out (by simp [playL])
      | succ m =>
        have h1 := HA.out
        simp only [playL] at h1
        obtain ⟨q, hq, h1⟩ := Option.bind_eq_some_iff.1 h1
        have HQ := Aside0.mk hq
        clear hq HA
        by_cases hq0 : q = 0
        · subst hq0
          rw [if_pos rfl] at h1
          obtain ⟨l, hl, h1⟩ := Option.bind_eq_some_iff.1 h1
          have HL := Aside0.mk hl
          clear hl
          by_cases hz : l.length = 0
          · rw [if_pos hz] at h1
            obtain rfl := Option.some.inj h1
            obtain rfl := List.eq_nil_of_length_eq_zero hz
            clear h1 hz
            go_wp2_with (first
              | (go_at_call 34; refine (impl_Board_filled.calls k n A cap L t 0 _ (heldB_row ⟨HP.out.held⟩) HCAP.out HQ.out).mono ?_; rintro e w10 ⟨rfl, hb10⟩; have HP10 := LoopP.below HP hb10; have hd0 := HP10.out.held.cells.1; have hd1 := HP10.out.held.cells.2.1; have ht0 := blk_cell HP10.out.st 0; have ht1 := blk_cell HP10.out.st 1; clear hb10)
              | (go_at_call 35; refine (impl_Board_free.calls n A cap L o t [] _ (heldB_row ⟨HP10.out.held⟩) HCAP.out HL.out).mono ?_; rintro e w11 ⟨v11, rfl, ho11, hb11⟩; obtain ⟨A11, c11, rfl, hl11, hC11⟩ := Kd.R_reads ho11; have HP11 := LoopP.below HP10 hb11; clear hb11 ho11 hC11))
            go_ret2
            exact ⟨_, rfl, HP11.out.out, HP11.out.held.2.1⟩
          · rw [if_neg hz] at h1
            have hzb : decide ((l.length : Int) > 0) = true := decide_eq_true (by omega)
            have hzc : decide (0 < l.length) = true := decide_eq_true (by omega)
            have hzd : 0 < l.length := by omega
            obtain ⟨m1, hm1, h1⟩ := Option.bind_eq_some_iff.1 h1
            split at h1
            rotate_left
            · cases h1
            rename_i hcond
            obtain ⟨hm0, hp0, hacc⟩ := hcond
            have HM := Aside0.mk hm1
            have HA2 : Aside0 (playL k n L m t (withN o (rd m1 0)) (acc ++ [rd m1 0]) = some x) := ⟨h1⟩
            clear h1 hm1 hz
            generalize hz2 : rd m1 0 = z at HA2 hp0
            have HZ := Aside0.mk hz2
            clear hz2
            have hinfo2 : (Try.prog.info? 2).map (fun i => (i.zero, i.size, i.bytes)) = some (some (.int .i64 0), 1, 8) := by kernel_rfl
            go_wp2_with (first
              | (go_at_call 34; refine (impl_Board_filled.calls k n A cap L t 0 _ (heldB_row ⟨HP.out.held⟩) HCAP.out HQ.out).mono ?_; rintro e w10 ⟨rfl, hb10⟩; have HP10 := LoopP.below HP hb10; have hd0 := HP10.out.held.cells.1; have hd1 := HP10.out.held.cells.2.1; have ht0 := blk_cell HP10.out.st 0; have ht1 := blk_cell HP10.out.st 1; clear hb10)
              | (go_at_call 35; refine (impl_Board_free.calls n A cap L o t l _ (heldB_row ⟨HP10.out.held⟩) HCAP.out HL.out).mono ?_; rintro e w11 ⟨v11, rfl, ho11, hb11⟩; obtain ⟨A11, c11, rfl, hl11, hC11⟩ := Kd.R_reads ho11; have HP11 := LoopP.below HP10 hb11; clear hb11 ho11 hC11; have he0 := HP11.out.held.cells.1; have he1 := HP11.out.held.cells.2.1; have hg0 := blk_cell HP11.out.st 0; have hg1 := blk_cell HP11.out.st 1)
              | (go_at_call 26; refine (bestNodes_calls k n A cap L HCAP.out 20 o t m1 w _ qk qb qf b HP11.out.env HP11.out.held.2.1 HP11.out.bb HM.out).mono ?_; rintro e w12 ⟨v12, rfl, ho12, he12, hg12⟩; obtain ⟨A12, c12, rfl, hl12, hC12⟩ := Kd.R_reads ho12; obtain ⟨ad, e, hx⟩ := Kd.at_int hC12 0 (by omega) (by omega); cases e; rw [HZ.out] at hx; have hx0 : w12.cell? ad = some (.int .i64 z) := (by simpa [Addr.add] using hx); have HP12 := LoopP.grown HP11 he12 hg12; clear ho12 he12 hg12 hC12 hx)
              | (at_builtin; refine Kd.R_append (Kd.int .i64) (w0 := w) w.heap.size rfl (.tmp 46) (.tmp 48) 24 2 (.int .i64 0) 8 rfl Try.underlying24 hinfo2 rfl (by decide) (by omega) (.slice Ao acc.length co) acc z [.int .i64 z] (fun _ => True) (fun _ => False) rfl rfl ?aP (fun _ hk => hk.elim) ?aF ?aO ?aB ?aS ?aL ?_; (case aP => exact rfl); (case aB => exact HP12.out.held.2.1); (case aF => exact (fun _ _ => trivial)); (case aO => exact HP12.out.out); (case aS => exact HP12.out.held.2.1.size); (case aL => omega); intro v13 w13 ho13 hb13 hg13 hat13))
            have HP13 : Aside0 (LoopP k n A cap L qk qb qf b gs w o t v13 (acc ++ [z]) w13) := by
              have hh := HP12.out.held.row hg13 hb13 (fun e => Kd.R_ne HP12.out.out HP12.out.held.1 (by decide) e.symm) (fun i e => Kd.R_base HP12.out.out i e)
              exact ⟨⟨HP12.out.env.row' HP12.out.out hg13 (rowAt_of hh HP12.out.bb), HP12.out.bb, HP12.out.gg, hh, blk_grown HP12.out.st hg13 (Kd.R_ne HP12.out.out HP12.out.st (by decide)), ho13⟩⟩
            have hk0 : w13.cell? ⟨gs, 0, none⟩ = some (.int .i64 o) := blk_cell HP13.out.st 0
            have hk1 : w13.cell? ⟨gs, 1, none⟩ = some (.int .i64 t) := blk_cell HP13.out.st 1
            clear ho13 hb13 hg13 hat13 HP12 HP11 HP10 HP hx0 hinfo2 hc0 hc1 hs0 hs1 hd0 hd1 ht0 ht1 he0 he1 hg0 hg1
            generalize hm : withN o z = o2 at HA2
            unfold withN at hm
            generalize hj : shl .i64 1 z = j at hm
            have hji8_ : (IntKind.i64.wrap (1 * 2 ^ min z.toNat 64)) = j := hj
            have hji8z : z ≤ 64 → (IntKind.i64.wrap (1 * 2 ^ z.toNat)) = j := shl_small hj
            have hji8u : (IntKind.i64.wrap (2 ^ min z.toNat 64)) = j := by have h_ := hji8_; rw [Int.one_mul] at h_; exact h_
            have hji8v : z ≤ 64 → (IntKind.i64.wrap (2 ^ z.toNat)) = j := fun hle_ => by have h_ := hji8z hle_; rw [Int.one_mul] at h_; exact h_
            have hji8y : (wrap64 (1 * 2 ^ min z.toNat 64)) = j := (i64_w _).symm.trans hji8_
            have hji8x : z ≤ 64 → (wrap64 (1 * 2 ^ z.toNat)) = j := fun h_ => (i64_w _).symm.trans (hji8z h_)
            have hf0 := blk_frozen HP13.out.st 0
            have hf1 := blk_frozen HP13.out.st 1
            go_region_with (fail)
            all_goals
              have HP14 := LoopP.below (LoopP.put HP13 t o2) (below_drew (Below.refl _ _))
              generalize ((w13.setCell ⟨gs, 0, none⟩ (.int .i64 t)).setCell ⟨gs, 1, none⟩ (.int .i64 o2)).drew = w14 at HP14 ⊢
              have hm0 : w14.cell? ⟨gs, 0, none⟩ = some (.int .i64 t) := blk_cell HP14.out.st 0
              have hm1 : w14.cell? ⟨gs, 1, none⟩ = some (.int .i64 o2) := blk_cell HP14.out.st 1
              clear HP13 hk0 hk1 hf0 hf1 hji8_ hji8z hji8u hji8v hji8y hji8x
              go_wp2
              go_roundg m
              case measure => omega
              case rel => exact ⟨v13, w14.heap.size, t, o2, acc ++ [z], rfl, rfl, LoopP.fresh HP14 (below_alloc (Below.refl _ _) _) (by simpa using heap_alloc_new w14 (.cells #[.int .i64 t, .int .i64 o2] 46)) HP14.out.held.2.1.size, HA2⟩
        · rw [if_neg hq0] at h1
          obtain rfl := Option.some.inj h1
          have hqb : (q == 0) = false := beq_eq_false_iff_ne.2 hq0
          clear h1
          go_wp2_with (first
            | (go_at_call 34; refine (impl_Board_filled.calls k n A cap L t q _ (heldB_row ⟨HP.out.held⟩) HCAP.out HQ.out).mono ?_; rintro e w10 ⟨rfl, hb10⟩; have HP10 := LoopP.below HP hb10; clear hb10))
          go_ret2
          exact ⟨_, rfl, HP10.out.out, HP10.out.held.2.1⟩
  · rw [if_neg e] at h
    simp only [Option.some.injEq, Prod.mk.injEq] at h
    obtain ⟨rfl, rfl⟩ := h
    have hne : (code != 0) = true := by simpa using e
    go_enter Try.func14, Try.ntmps14
    go_wp2_with fail
    have HKd : Aside0 (HeldB w n A cap L w1.drew) := ⟨HK.out.drew⟩
    refine start_ (n := 10) (S := (fun w' => w'.cell? ⟨w.heap.size, 0, none⟩ = some (.int .i64 n) ∧ w'.cell? ⟨w.heap.size, 1, none⟩ = some (.slice A L.length cap))) (ds := []) #[false, false, false, false, false, false, false, false, false, false] (by kernel_rfl) rfl rfl ⟨HKd.out.cells.1, HKd.out.cells.2.1⟩ (fun hHeld => ?_); refine with_tabW codeT_tabP codeT_bitsP (fun HT_ HW_ => ?_)
    generalize w1.drew = w2 at HKd hHeld ⊢
    refine pure_ (i := 3) (N := some 12) (v := ?_) (a' := ?_) #[false, false, false, true, false, false, false, false, false, false] rfl rfl (any_of HT_.out (by kernel_rfl)) (fun _ _ _ h => h) (Or.inl ⟨by rfl, ?_⟩) ?_ ?_
    rotate_left
    · intro w'
      go_simp
      with_reducible rfl
    rotate_left
    · simp only [Act.put, List.setIfInBounds_toArray, List.set_cons_zero, List.set_cons_succ, i64_w, i32_w]
      rfl
    refine take_ (i := 0) (N := some 9) (v := ?_) (a' := ?_) #[true, false, false, true, false, false, false, false, false, false] rfl rfl (take_ofW HT_.out HW_.out (by kernel_rfl)) (fun _ _ _ h => h) (Or.inl ⟨by rfl, ?_⟩) hHeld ?_ ?_
    rotate_left
    · rintro w' ⟨s0, s1⟩
      go_simp
      with_reducible rfl
    rotate_left
    · simp only [Act.put, List.setIfInBounds_toArray, List.set_cons_zero, List.set_cons_succ, i64_w, i32_w]
      rfl
    refine take_ (i := 4) (N := some 13) (v := ?_) (a' := ?_) #[true, false, false, true, true, false, false, false, false, false] rfl rfl (take_ofW HT_.out HW_.out (by kernel_rfl)) (fun _ _ _ h => h) (Or.inl ⟨by rfl, ?_⟩) hHeld ?_ ?_
    rotate_left
    · rintro w' ⟨s0, s1⟩
      go_simp
      with_reducible rfl
    rotate_left
    · simp only [Act.put, List.setIfInBounds_toArray, List.set_cons_zero, List.set_cons_succ, i64_w, i32_w]
      rfl
    refine pure_ (i := 5) (N := some 14) (v := ?_) (a' := ?_) #[true, false, false, true, true, true, false, false, false, false] rfl rfl (any_of HT_.out (by kernel_rfl)) (fun _ _ _ h => h) (Or.inl ⟨by rfl, ?_⟩) ?_ ?_
    rotate_left
    · intro w'
      go_simp
      with_reducible rfl
    rotate_left
    · simp only [Act.put, List.setIfInBounds_toArray, List.set_cons_zero, List.set_cons_succ, i64_w, i32_w]
      rfl
    refine pure_ (i := 6) (N := some 15) (v := ?_) (a' := ?_) #[true, false, false, true, true, true, true, false, false, false] rfl rfl (any_of HT_.out (by kernel_rfl)) (fun _ _ _ h => h) (Or.inl ⟨by rfl, ?_⟩) ?_ ?_
    rotate_left
    · intro w'
      go_simp
      with_reducible rfl
    rotate_left
    · simp only [Act.put, List.setIfInBounds_toArray, List.set_cons_zero, List.set_cons_succ, i64_w, i32_w]
      rfl
    refine one_ (i := 1) (N := some 10) #[true, true, false, true, true, true, true, false, false, false] rfl rfl (one_of HT_.out (by kernel_rfl)) (by decide) (fun K hK => ?_)
    refine goes_ Try.func33 (by kernel_rfl) rfl #[.agg #[.int .i64 n, .slice A L.length cap]] (by rfl) rfl rfl (by (try simp only [List.map_toArray, List.map_cons, List.map_nil]); first | done | rfl) ?_
    refine (impl_IsBoard.calls k n _ _ L isb _ (heldB_row HKd) HCAP.out A3.out).mono ?_
    rintro e w4 ⟨rfl, hb4⟩
    refine ⟨_, rfl, ?_⟩
    have HK4 := Aside0.mk (heldB_below HKd hb4)
    refine hK.out _ _ ⟨HK4.out.cells.1, HK4.out.cells.2.1⟩ (fun hHeld => ?_)
    clear hK K
    refine norm_ (a' := ?_) ?_ ?_
    rotate_left
    · show Act.put _ (some 10) _ = _
      simp only [Act.put, List.setIfInBounds_toArray, List.set_cons_zero, List.set_cons_succ, i64_w, i32_w]
      rfl
    refine pure_ (i := 2) (N := some 11) (v := ?_) (a' := ?_) #[true, true, true, true, true, true, true, false, false, false] rfl rfl (any_of HT_.out (by kernel_rfl)) (fun _ _ _ h => h) (Or.inl ⟨by rfl, ?_⟩) ?_ ?_
    rotate_left
    · intro w'
      go_simp
      with_reducible rfl
    rotate_left
    · simp only [Act.put, List.setIfInBounds_toArray, List.set_cons_zero, List.set_cons_succ, i64_w, i32_w]
      rfl
    refine one_ (i := 7) (N := some 16) #[true, true, true, true, true, true, true, true, false, false] rfl rfl (one_of HT_.out (by kernel_rfl)) (by decide) (fun K hK => ?_)
    refine Kd.R_lit_step k57 _ 57 ?hg (N := 16) ?hd (xs := ([(⟨isb, 1⟩ : S57), (⟨decide (n ≤ 9), 3⟩ : S57)] : List (S57))) (inner := [.bool isb, .int .i64 1, .bool (decide (n ≤ 9)), .int .i64 3]) (ok := fun _ => True) (okp := fun _ => True) ?hr ?hp (fun _ hk => hk) trivial (Below.refl _ _) (Nat.le_refl _) (by simp) ?_; (case hd => rfl); (case hg => rfl); (case hr => first | (go_simp; done) | (go_simp; rfl)); (case hp => exact (Reps.c2 (show Kd.M k57 _ _ _ (⟨isb, 1⟩ : S57) [.bool isb, .int .i64 1] from (k57_mkM _ _ _ (⟨isb, 1⟩ : S57) )) (Reps.c2 (show Kd.M k57 _ _ _ (⟨decide (n ≤ 9), 3⟩ : S57) [.bool (decide (n ≤ 9)), .int .i64 3] from (k57_mkM _ _ _ (⟨decide (n ≤ 9), 3⟩ : S57) )) (Reps.none _ _))))
    intro v5 w5 ho5 hb5 hg_ hnew_
    clear hg_ hnew_
    rw [← Ny.out] at ho5
    have HK5 := Aside0.mk (heldB_below HK4 hb5)
    have HO5 := Aside0.mk ho5
    clear ho5 hb5
    obtain ⟨Ao5, co5, eo5⟩ := Kd.R_slice HO5.out
    subst eo5
    refine hK.out _ _ ⟨HK5.out.cells.1, HK5.out.cells.2.1⟩ (fun hHeld => ?_)
    clear hK K
    refine norm_ (a' := ?_) ?_ ?_
    rotate_left
    · show Act.put _ (some 16) _ = _
      simp only [Act.put, List.setIfInBounds_toArray, List.set_cons_zero, List.set_cons_succ, i64_w, i32_w]
      rfl
    refine one_ (i := 8) (N := some 17) #[true, true, true, true, true, true, true, true, true, false] rfl rfl (one_of HT_.out (by kernel_rfl)) (by decide) (fun K hK => ?_)
    refine goes_ Try.func32 (by kernel_rfl) rfl #[.slice Ao5 ys.length co5] (by rfl) rfl rfl (by (try simp only [List.map_toArray, List.map_cons, List.map_nil]); first | done | rfl) ?_
    refine (impl_first.calls k _ _ ys code _ (Kd.R_reads' HO5.out).2.2 (Kd.R_reads' HO5.out).2.1 A5.out).mono ?_
    rintro e w6 ⟨rfl, hb6⟩
    refine ⟨_, rfl, ?_⟩
    have HK6 := Aside0.mk (heldB_below HK5 hb6)
    clear hb6
    refine hK.out _ _ ⟨HK6.out.cells.1, HK6.out.cells.2.1⟩ (fun hHeld => ?_)
    clear hK K
    refine norm_ (a' := ?_) ?_ ?_
    rotate_left
    · show Act.put _ (some 17) _ = _
      simp only [Act.put, List.setIfInBounds_toArray, List.set_cons_zero, List.set_cons_succ, i64_w, i32_w]
      rfl
    refine pure_ (i := 9) (N := some 4) (v := ?_) (a' := ?_) #[true, true, true, true, true, true, true, true, true, true] rfl rfl (any_of HT_.out (by kernel_rfl)) (fun _ _ _ h => h) (Or.inl ⟨by rfl, ?_⟩) ?_ ?_
    rotate_left
    · intro w'
      go_simp
      with_reducible rfl
    rotate_left
    · simp only [Act.put, List.setIfInBounds_toArray, List.set_cons_zero, List.set_cons_succ, i64_w, i32_w]
      rfl
    refine done_ (done_of HT_.out (by kernel_rfl)) ?_
    clear HK4 HK5 HKd HO5 HT_ HW_ hHeld
    obtain ⟨hd0, hd1, _⟩ := HK6.out.cells
    go_wp2
    go_ret2
    exact ⟨_, rfl, Kd.R_nil _ _ _ _ _, HK6.out.2.1⟩
end Go.Proofs.Ytbmkhdeeengbmaa.Q
