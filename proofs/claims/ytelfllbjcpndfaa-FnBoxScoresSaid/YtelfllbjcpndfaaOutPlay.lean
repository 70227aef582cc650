/-
  PlayBoxes: the code, or the first best edges one behind the other; told as the printed functions are.
-/
import Derived.Test.YtelfllbjcpndfaaOutNet
namespace Go.Proofs.Ytelfllbjcpndfaa.Q
open Go.RowKit Go.Proofs.YtelfllbjcpndfaaW.PrintWords Go.Proofs.YtelfllbjcpndfaaW.PrintLast Go.Proofs.YtelfllbjcpndfaaW.PrintMore
open Go.Maps (Keyed)

/-- The play from a position whose best edges are l, behind the edges acc; at most d edges more. -/
def playL (k : Nat) (W H : Int) : Nat → Int → List Int → List Int → Option (List Int)
  | 0, _, _, _ => none
  | d + 1, E, l, acc => if 0 < l.length then if acc.length ≤ 100 then (impl_Boxes_add.f k W H E (rd l 0)).bind fun m => (bestF k W H 14 m.2.2.1).bind fun l2 => playL k W H d m.2.2.1 l2 (acc ++ [rd l 0]) else none else some acc
theorem playL_mono (W H : Int) (d : Nat) : ∀ (k : Nat) (E : Int) (l acc : List Int), LeO (playL k W H d E l acc) (playL (k + 1) W H d E l acc) := by
  induction d with
  | zero => intro k E l acc; exact LeO.refl _
  | succ d ih =>
    intro k E l acc
    exact LeO.ite (LeO.ite (LeO.bind (impl_Boxes_add.mono _ _ _ _ k) (fun _ => LeO.bind (bestF_mono _ _ _ _ _) (fun _ => ih _ _ _ _))) (LeO.refl _)) (LeO.refl _)
def impl_PlayBoxes.f (k : Nat) (W H E : Int) : Option (List Int × Int) := (impl_scoreCode.f k W H E).bind fun c => if c = 0 then (bestF k W H 14 E).bind fun l => (playL k W H 40 E l []).bind fun r => some (r, 0) else some (([] : List Int), c)
theorem impl_PlayBoxes.mono : ∀ a0 a1 a2 k, LeO (impl_PlayBoxes.f k a0 a1 a2) (impl_PlayBoxes.f (k + 1) a0 a1 a2) := by
  intro a0 a1 a2 k
  exact LeO.bind (impl_scoreCode.mono _ _ _ k) (fun c => LeO.ite (LeO.bind (bestF_mono _ _ _ _ _) (fun l => LeO.bind (playL_mono _ _ _ k _ _ _) (fun r => LeO.refl _))) (LeO.refl _))
/-- The loop's world: the function's variables, the position's variable, and both rows, apart. -/
structure LoopP (k : Nat) (W H : Int) (qk qf b : Nat) (w0 : World) (E : Int) (vo vl : Value) (acc l : List Int) (w : World) : Prop where
  env : EnvS k W H qk qf b w
  bb : w0.heap.size ≤ b
  st : w.heap[w0.heap.size]? = some (.cells #[.int .i64 W, .int .i64 H, .int .i64 E] 25 (0, 0))
  bel : Below w0.heap.size w0 w
  out : Kd.R (Kd.int .i64) 2 w w0.heap.size (fun k_ => some k_ ≠ vl.ownBlock) vo acc
  list : Kd.R (Kd.int .i64) 2 w w0.heap.size (fun k_ => some k_ ≠ vo.ownBlock) vl l
section
variable {k : Nat} {W H E : Int} {qk qf b : Nat} {w0 w w' : World} {vo vl : Value} {acc l : List Int}
theorem EnvS.row (h : EnvS k W H qk qf b w) {vo : Value} {acc : List Int} {base : Nat} {ok : Nat → Prop} (ho : Kd.R (Kd.int .i64) 2 w base ok vo acc) (hg : w.grownBy w' vo.ownBlock) : EnvS k W H qk qf b w' :=
  ⟨blk_grown h.known hg (Kd.R_ne ho h.known (by decide)), blk_grown h.find hg (Kd.R_ne ho h.find (by decide)), h.memo.kept hg (fun e => by
    obtain ⟨cells, hc⟩ := Kd.R_typed ho b e.symm
    exact h.memo.ne hc rfl)⟩
end
theorem LoopP.below {k : Nat} {W H E : Int} {qk qf b : Nat} {w0 w w' : World} {vo vl : Value} {acc l : List Int} (h : Aside0 (LoopP k W H qk qf b w0 E vo vl acc l w)) (hb : Below w.heap.size w w') : Aside0 (LoopP k W H qk qf b w0 E vo vl acc l w') :=
  ⟨⟨h.out.env.below hb, h.out.bb, blk_below h.out.st hb, below_then h.out.bel h.out.bel.size hb, Kd.R_below h.out.out hb, Kd.R_below h.out.list hb⟩⟩
theorem set3_grown (w : World) (g : Nat) (a b c : Value) : w.grownBy (((w.setCell ⟨g, 0, none⟩ a).setCell ⟨g, 1, none⟩ b).setCell ⟨g, 2, none⟩ c) (some g) :=
  ⟨rfl, rfl, rfl, by simp, fun k hk hn => by rw [Below.heap_setCell _ _ _ _ (fun e => hn (by rw [e])), Below.heap_setCell _ _ _ _ (fun e => hn (by rw [e])), Below.heap_setCell _ _ _ _ (fun e => hn (by rw [e]))]⟩
theorem LoopP.put {k : Nat} {W H E : Int} {qk qf b : Nat} {w0 w : World} {vo vl : Value} {acc l : List Int} (h : Aside0 (LoopP k W H qk qf b w0 E vo vl acc l w)) (E2 : Int) :
    Aside0 (LoopP k W H qk qf b w0 E2 vo vl acc l (((w.setCell ⟨w0.heap.size, 0, none⟩ (.int .i64 W)).setCell ⟨w0.heap.size, 1, none⟩ (.int .i64 H)).setCell ⟨w0.heap.size, 2, none⟩ (.int .i64 E2))) := by
  have hg := set3_grown w w0.heap.size (.int .i64 W) (.int .i64 H) (.int .i64 E2)
  have hs := blk_set (blk_set (blk_set h.out.st 0 (.int .i64 W)) 1 (.int .i64 H)) 2 (.int .i64 E2)
  have hne : ∀ {e : Nat} {v : Value} {l : List Int} {ok : Nat → Prop}, e = 2 → Kd.R (Kd.int .i64) e w w0.heap.size ok v l → Kd.R (Kd.int .i64) e (((w.setCell ⟨w0.heap.size, 0, none⟩ (.int .i64 W)).setCell ⟨w0.heap.size, 1, none⟩ (.int .i64 H)).setCell ⟨w0.heap.size, 2, none⟩ (.int .i64 E2)) w0.heap.size ok v l := fun he hr => by
    subst he
    exact Kd.R_mono (Kd.R_grown (Kd.R_types hr h.out.st (by decide)) hg (fun k hk e => hk.2 (Option.some.inj e))) (fun _ hk => hk.1)
  exact ⟨⟨blk_grown h.out.env.known hg (fun e => blk_ne h.out.env.known h.out.st (by decide) (Option.some.inj e)), blk_grown h.out.env.find hg (fun e => blk_ne h.out.env.find h.out.st (by decide) (Option.some.inj e)), h.out.env.memo.kept hg (fun e => h.out.env.memo.ne h.out.st e.symm)⟩,
    h.out.bb, by simpa using hs, below_set (below_set (below_set h.out.bel (Nat.le_refl _)) (Nat.le_refl _)) (Nat.le_refl _), hne rfl h.out.out, hne rfl h.out.list⟩
theorem LoopP.next {k : Nat} {W H E : Int} {qk qf b : Nat} {w0 w w' : World} {vo vl v : Value} {acc l l2 : List Int} (h : LoopP k W H qk qf b w0 E vo vl acc l w) (ho : Kd.R (Kd.int .i64) 2 w' w0.heap.size (fun k_ => w.heap.size ≤ k_) v l2) (he : EnvS k W H qk qf b w') (hg : w.grownBy w' (some b)) : Aside0 (LoopP k W H qk qf b w0 E vo v acc l2 w') := by
  have hlt := Kd.R_lt h.out
  have hno : ∀ k, some k = vo.ownBlock → some k ≠ some b := fun i hi e => by
    obtain ⟨cells, hc⟩ := Kd.R_typed h.out i hi.symm
    exact h.env.memo.ne hc e
  refine ⟨⟨he, h.bb, blk_grown h.st hg (h.env.memo.ne h.st), h.bel.grown hg h.bel.size (fun k e => by have := Option.some.inj e; have := h.bb; omega), ?_, Kd.R_mono ho (fun k hk e => by have := hlt k e.symm; omega)⟩⟩
  have h1 := Kd.R_bound h.out
  refine Kd.R_mono (Kd.R_grown h1 hg (fun k hk e => ?_)) (fun k hk e => ?_)
  · obtain ⟨_, _, _, q, hq, cells, hc⟩ := hk
    exact h.env.memo.ne hc e
  · have := ho.1 k e.symm
    have := hk.2.2.1
    omega
theorem Memo.ne' {P : Program} {q : TypeId} {good : Value → Value → Prop} {w w' : World} {b i : Nat} {cs : Array Value} {t : TypeId} {f : Nat × Nat} (h : Memo P q good w b) (hb : Below w.heap.size w w') (hi : w'.heap[i]? = some (.cells cs t f)) : some i ≠ some b := (h.below hb).ne hi
theorem R_zero {w : World} {g base e : Nat} {ok : Nat → Prop} (h : w.heap[g]? = some (.cells #[] e (0, 0))) (hb : base ≤ g) (hok : ok g) : Kd.R (Kd.int .i64) e w base ok (.slice (some ⟨g, 0, none⟩) 0 0) [] :=
  ⟨fun k hk => by
    have : g = k := by simpa [Value.ownBlock] using hk
    subst this
    exact hok, [], ⟨rfl, .inr ⟨g, 0, #[], rfl, hb, h, Nat.le_refl _, by decide, rfl, rfl⟩⟩, Reps.none _ _⟩
set_option linter.unusedSimpArgs false
set_option maxRecDepth 100000
set_option maxHeartbeats 8000000 in
theorem impl_PlayBoxes.calls (k : Nat) (W H E : Int) (r1 : List Int) (r2 : Int) (w : World) (h : impl_PlayBoxes.f k W H E = some (r1, r2)) :
    Calls Try.prog 10 #[.agg #[.int .i64 W, .int .i64 H, .int .i64 E]] w fun e w' => ∃ v0_ : Value, e = .returned (.tuple #[v0_, .int .i64 r2]) ∧ Kd.R (Kd.int .i64) 2 w' w.heap.size (fun _ => True) v0_ r1 ∧ Below w.heap.size w w' := by
  unfold impl_PlayBoxes.f at h
  obtain ⟨c, hc, h⟩ := Option.bind_eq_some_iff.1 h
  generalize hw1 : w.alloc (.cells #[.int .i64 W, .int .i64 H, .int .i64 E] 25) = w1
  have HK : Aside0 (HeldB w W H E w1) := ⟨by rw [← hw1]; simpa using heap_alloc_new w (.cells #[.int .i64 W, .int .i64 H, .int .i64 E] 25), by rw [← hw1]; exact (Below.refl _ _).alloc (Nat.le_refl _) _⟩
  obtain ⟨hc0, hc1, hc2, _⟩ := HK.out.cells
  have hu := Try.underlying25
  have HC := Aside0.mk hc
  clear hc
  by_cases e : c = 0
  · rw [if_pos e] at h
    subst e
    obtain ⟨l, hl, h⟩ := Option.bind_eq_some_iff.1 h
    obtain ⟨x, hx, h⟩ := Option.bind_eq_some_iff.1 h
    simp only [Option.some.injEq, Prod.mk.injEq] at h
    obtain ⟨rfl, rfl⟩ := h
    have HL := Aside0.mk hl
    have HX := Aside0.mk hx
    clear hl hx
    go_enter Try.func10, Try.ntmps10
    go_wp2_with (first
      | (go_at_call 21; refine (impl_scoreCode.calls k W H E 0 _ HC.out).mono ?_; rintro e w2 ⟨rfl, hb2⟩)
      | (go_at_call 22; refine (scores_calls k W H _).mono ?_; rintro e w3 ⟨qk, qf, b, rfl, he3, hb3, hlt⟩; generalize hw5 : w3.alloc (.cells #[] 2) = w5; have hb5 : Below w3.heap.size w3 w5 := (by rw [← hw5]; exact below_alloc (Below.refl _ _) _); have hr5 := (by rw [← hw5]; exact heap_alloc_new w3 _ : w5.heap[w3.heap.size]? = some (.cells #[] 2 (0, 0))); have HK5 := heldB_below2 (heldB_below2 (heldB_below2 HK hb2) hb3) hb5; obtain ⟨hd0, hd1, hd2, _⟩ := HK5.out.cells)
      | (go_at_call 27; refine (bestEdges_calls k W H 14 E l w _ qk qf b (he3.below hb5) HK5.out.2 (Nat.le_trans (heldB_below HK hb2).2.size hlt) HL.out).mono ?_; rintro e w4 ⟨v4, rfl, ho4, he4, hg4⟩))
    have HBB : Aside0 (w.heap.size ≤ b) := ⟨Nat.le_trans (heldB_below HK hb2).2.size hlt⟩
    have hle3 : w.heap.size ≤ w3.heap.size := (heldB_below2 (heldB_below2 HK hb2) hb3).out.2.size
    have hl5 : w5.heap.size = w3.heap.size + 1 := by rw [← hw5]; simp
    have HP4 : Aside0 (LoopP k W H qk qf b w E (.slice (some ⟨w3.heap.size, 0, none⟩) 0 0) v4 [] l w4) := ⟨⟨he4, HBB.out, blk_grown HK5.out.1 hg4 (he3.memo.ne' hb5 HK5.out.1), HK5.out.2.grown hg4 HK5.out.2.size (fun k e => by have := Option.some.inj e; have := HBB.out; omega), R_zero (blk_grown hr5 hg4 (he3.memo.ne' hb5 hr5)) hle3 (fun e => by have := ho4.1 _ e.symm; omega), Kd.R_mono ho4 (fun k hk e => by have := Option.some.inj e; simp only at this; omega)⟩⟩
    clear ho4 he4 hg4 hw5 hb5 hr5 HK5 hd0 hd1 hd2 hl5 hle3 hlt he3 hb3 hb2 hw1 hc0 hc1 hc2 HL
    go_loopg [6, 7] 40 (fun gg' s6 s7 wr => ∃ (vo vl : Value) (E1 : Int) (acc l1 : List Int), s6 = vo ∧ s7 = vl ∧ Aside0 (LoopP k W H qk qf b w E1 vo vl acc l1 wr) ∧ Aside0 (playL k W H gg' E1 l1 acc = some x))
    case atStart => exact ⟨_, _, E, [], l, rfl, rfl, HP4, HX⟩
    case round =>
      obtain ⟨vo, vl, E1, acc, l1, rfl, rfl, HP, HA⟩ := hrel
      clear HX HP4
      obtain ⟨Al, cl, rfl, hcl, hCl⟩ := Kd.R_reads HP.out.list
      obtain ⟨Ao, co, rfl, hco, _⟩ := Kd.R_reads HP.out.out
      have hc0 : wr.cell? ⟨w.heap.size, 0, none⟩ = some (.int .i64 W) := blk_cell HP.out.st 0
      have hc1 : wr.cell? ⟨w.heap.size, 1, none⟩ = some (.int .i64 H) := blk_cell HP.out.st 1
      have hc2 : wr.cell? ⟨w.heap.size, 2, none⟩ = some (.int .i64 E1) := blk_cell HP.out.st 2
      cases gk with
      | zero => exact absurd HA.out (by simp [playL])
      | succ n =>
        by_cases hz : 0 < l1.length
        · have hzb : decide ((l1.length : Int) > 0) = true := decide_eq_true (by omega)
          obtain ⟨hacc, E2, y, l2, hm, hl2, HA2⟩ : acc.length ≤ 100 ∧ ∃ (E2 y : Int) (l2 : List Int), impl_Boxes_add.f k W H E1 (rd l1 0) = some (W, H, E2, y) ∧ bestF k W H 14 E2 = some l2 ∧ Aside0 (playL k W H n E2 l2 (acc ++ [rd l1 0]) = some x) := by
            have h1 := HA.out
            simp only [playL] at h1
            rw [if_pos hz] at h1
            split at h1
            rotate_left
            · cases h1
            rename_i hacc
            obtain ⟨m, hm, h1⟩ := Option.bind_eq_some_iff.1 h1
            obtain ⟨l2, hl2, h1⟩ := Option.bind_eq_some_iff.1 h1
            have e := add_form k W H E1 _ m hm
            exact ⟨hacc, m.2.2.1, m.2.2.2, l2, by rw [← e]; exact hm, hl2, ⟨h1⟩⟩
          obtain ⟨ad, e, hx⟩ := Kd.at_int hCl 0 (by omega) (by omega)
          cases e
          have HM := Aside0.mk hm
          have HL2 := Aside0.mk hl2
          generalize rd l1 0 = z at hx hm HM HA2
          have hx0 : wr.cell? ad = some (.int .i64 z) := by simpa [Addr.add] using hx
          clear hx
          have hinfo2 : (Try.prog.info? 2).map (fun i => (i.zero, i.size, i.bytes)) = some (some (.int .i64 0), 1, 8) := by kernel_rfl
          clear hm hl2 HA hCl
          go_wp2_with (at_builtin; refine Kd.R_append (Kd.int .i64) (w0 := w) w.heap.size rfl (.tmp 24) (.tmp 28) 29 2 (.int .i64 0) 8 rfl Try.underlying29 hinfo2 rfl (by decide) (by omega) (.slice Ao acc.length co) acc z [.int .i64 z] (fun k_ => some k_ ≠ (.slice (some ad) l1.length cl : Value).ownBlock) (fun _ => False) rfl rfl ?aP (fun _ hk => hk.elim) ?aF ?aO ?aB ?aS ?aL ?_; (case aP => exact rfl); (case aB => exact HP.out.bel); (case aF => exact (fun k_ hk => Kd.fresh' (Kd.R_lt HP.out.list) k_ hk)); (case aO => exact HP.out.out); (case aS => exact HP.out.bel.size); (case aL => omega); intro v6 w6 ho6 hb6 hg6 hat6)
          have HP6 : Aside0 (LoopP k W H qk qf b w E1 v6 (.slice (some ad) l1.length cl) (acc ++ [z]) l1 w6) := ⟨⟨HP.out.env.row HP.out.out hg6, HP.out.bb, blk_grown HP.out.st hg6 (Kd.R_ne HP.out.out HP.out.st (by decide)), hb6, ho6, Kd.R_mono (Kd.R_after (ok := fun _ => True) (Kd.R_mono HP.out.list (fun _ hk => ⟨trivial, hk⟩)) hg6 hat6) (fun _ hk => hk.2)⟩⟩
          have hx6 : w6.cell? ad = some (.int .i64 z) := hg6.cell hx0 (HP.out.list.1 ad.block rfl)
          have hd0 : w6.cell? ⟨w.heap.size, 0, none⟩ = some (.int .i64 W) := blk_cell HP6.out.st 0
          have hd1 : w6.cell? ⟨w.heap.size, 1, none⟩ = some (.int .i64 H) := blk_cell HP6.out.st 1
          have hd2 : w6.cell? ⟨w.heap.size, 2, none⟩ = some (.int .i64 E1) := blk_cell HP6.out.st 2
          clear ho6 hb6 hg6 hat6 hx0 hc0 hc1 hc2 HP hinfo2
          go_region_with (first | (go_at_call 29; refine (impl_Boxes_add.calls k W H E1 z W H E2 y _ HM.out).mono ?_; rintro e w7 ⟨rfl, hb7⟩; have HP7 := LoopP.below (LoopP.below HP6 (below_drew (Below.refl _ _))) hb7; have hk0 : w7.cell? ⟨w.heap.size, 0, none⟩ = some (.int .i64 W) := blk_cell HP7.out.st 0; have hk1 : w7.cell? ⟨w.heap.size, 1, none⟩ = some (.int .i64 H) := blk_cell HP7.out.st 1; have hk2 : w7.cell? ⟨w.heap.size, 2, none⟩ = some (.int .i64 E1) := blk_cell HP7.out.st 2; have hf0 := blk_frozen HP7.out.st 0; have hf1 := blk_frozen HP7.out.st 1; have hf2 := blk_frozen HP7.out.st 2))
          all_goals
            have HP8 := LoopP.put HP7 E2
            generalize ((w7.setCell ⟨w.heap.size, 0, none⟩ (.int .i64 W)).setCell ⟨w.heap.size, 1, none⟩ (.int .i64 H)).setCell ⟨w.heap.size, 2, none⟩ (.int .i64 E2) = w8 at HP8 ⊢
            have hm0 : w8.cell? ⟨w.heap.size, 0, none⟩ = some (.int .i64 W) := blk_cell HP8.out.st 0
            have hm1 : w8.cell? ⟨w.heap.size, 1, none⟩ = some (.int .i64 H) := blk_cell HP8.out.st 1
            have hm2 : w8.cell? ⟨w.heap.size, 2, none⟩ = some (.int .i64 E2) := blk_cell HP8.out.st 2
            clear hk0 hk1 hk2 hf0 hf1 hf2 hd0 hd1 hd2 hx6 HP7 HP6 hb7
            go_wp2_with (go_at_call 27; refine (bestEdges_calls k W H 14 E2 l2 w _ qk qf b HP8.out.env HP8.out.bel HBB.out HL2.out).mono ?_; rintro e w9 ⟨v9, rfl, ho9, he9, hg9⟩)
            go_roundg n
            case measure => omega
            case rel => exact ⟨v6, v9, E2, acc ++ [z], l2, rfl, rfl, HP8.out.next ho9 he9 hg9, HA2⟩
        · have hzb : decide ((l1.length : Int) > 0) = false := decide_eq_false (by omega)
          obtain rfl : acc = x := by
            have h1 := HA.out
            simp only [playL] at h1
            rw [if_neg hz] at h1
            exact Option.some.inj h1
          go_wp2
          go_ret2
          exact ⟨_, rfl, Kd.R_mono HP.out.out (fun _ _ => trivial), HP.out.bel⟩
  · rw [if_neg e] at h
    simp only [Option.some.injEq, Prod.mk.injEq] at h
    obtain ⟨rfl, rfl⟩ := h
    have hne : (c != 0) = true := by simpa using e
    go_enter Try.func10, Try.ntmps10
    go_wp2_with (go_at_call 21; refine (impl_scoreCode.calls k W H E c _ HC.out).mono ?_; rintro e w2 ⟨rfl, hb2⟩)
    go_ret2
    exact ⟨_, rfl, Kd.R_nil _ _ _ _ _, (heldB_below HK hb2).2⟩
end Go.Proofs.Ytelfllbjcpndfaa.Q
