/-
  scores: the function that it makes tells net scores, whatever has been stored before, as long as what is stored is right. As far as 'scoreF' goes.
-/
import Derived.Test.YtelfllbjcpndfaaScoreCode
import Derived.Test.YtelfllbjcpndfaaHof
namespace Go.Proofs.Ytelfllbjcpndfaa.Q
open Go.RowKit Go.Proofs.YtelfllbjcpndfaaW.PrintWords Go.Proofs.YtelfllbjcpndfaaW.PrintLast Go.Proofs.YtelfllbjcpndfaaW.PrintMore
open Go.Maps (Keyed)

theorem edgeLaw : Keyed Try.prog 2 := Maps.int_keyed Try.underlying2
def goodS (k : Nat) (W H : Int) (key v : Value) : Prop := ∃ (E : Int) (d : Nat) (r : Int), key = .int .i64 E ∧ v = .int .i64 r ∧ scoreF k W H d E = some r
def codeS (v : Value) : Nat := (intOf v).toNat
theorem goodS_few (k : Nat) (W H : Int) : Few (goodS k W H) := by
  refine ⟨codeS, 16777216, by decide, ?_, ?_⟩
  · rintro _ _ ⟨E, d, r, rfl, rfl, h⟩
    obtain ⟨h0, h1⟩ := scoreF_ok k W H d E r h
    show (intOf (.int .i64 E)).toNat < _
    simp only [intOf]
    omega
  · rintro _ _ _ _ ⟨E, d, r, rfl, rfl, h⟩ ⟨E', d', r', rfl, rfl, h'⟩ e
    obtain ⟨h0, h1⟩ := scoreF_ok k W H d E r h
    obtain ⟨k0, k1⟩ := scoreF_ok k W H d' E' r' h'
    simp only [codeS, intOf] at e
    obtain rfl : E = E' := by omega
    rfl
/-- The variables that the function captures, and its store. -/
structure EnvS (k : Nat) (W H : Int) (qk qf b : Nat) (w : World) : Prop where
  known : w.heap[qk]? = some (.cells #[.map (some b)] 75 (0, 0))
  find : w.heap[qf]? = some (.cells #[.func (.func 48) #[] #[.pointer (some ⟨qk, 0, none⟩), .pointer (some ⟨qf, 0, none⟩)]] 47 (0, 0))
  memo : Memo Try.prog 2 (goodS k W H) w b
theorem at_block {w : World} {i : Nat} {o : Obj} (h : w.heap[i]? = some o) : i < w.heap.size := (Array.getElem?_eq_some_iff.1 h).1
theorem Memo.ne {P : Program} {q : TypeId} {good : Value → Value → Prop} {w : World} {b i : Nat} {cs : Array Value} {t : TypeId} {f : Nat × Nat} (h : Memo P q good w b) (hi : w.heap[i]? = some (.cells cs t f)) : some i ≠ some b := by
  obtain ⟨es, clock, hb, _⟩ := h
  intro e
  obtain rfl := Option.some.inj e
  rw [hb] at hi
  cases hi
section
variable {k : Nat} {W H : Int} {qk qf b : Nat} {w w' : World}
theorem EnvS.grown (h : EnvS k W H qk qf b w) (hg : w.grownBy w' (some b)) (hm : Memo Try.prog 2 (goodS k W H) w' b) : EnvS k W H qk qf b w' :=
  ⟨(hg.block qk (at_block h.known) (h.memo.ne h.known)).trans h.known, (hg.block qf (at_block h.find) (h.memo.ne h.find)).trans h.find, hm⟩
theorem EnvS.below (h : EnvS k W H qk qf b w) (hb : Below w.heap.size w w') : EnvS k W H qk qf b w' :=
  ⟨(hb.block qk (at_block h.known)).trans h.known, (hb.block qf (at_block h.find)).trans h.find, h.memo.below hb⟩
end
/-- The function's contract at a depth. -/
def FindS (k : Nat) (W H : Int) (d : Nat) : Prop := ∀ (E r : Int) (w : World) (qk qf b : Nat), EnvS k W H qk qf b w → scoreF k W H d E = some r →
  Calls Try.prog 48 #[.agg #[.int .i64 W, .int .i64 H, .int .i64 E], .pointer (some ⟨qk, 0, none⟩), .pointer (some ⟨qf, 0, none⟩)] w fun e w' => e = .returned (.int .i64 r) ∧ EnvS k W H qk qf b w' ∧ w.grownBy w' (some b)

set_option linter.unusedSimpArgs false
set_option maxRecDepth 100000
set_option maxHeartbeats 4000000 in
theorem behind_calls (k : Nat) (W H : Int) (d : Nat) (ih : FindS k W H d) (E x r : Int) (w : World) (qk qf b : Nat) (hE : EnvS k W H qk qf b w) (h : behindF (scoreF k W H d) k W H E x = some r) :
    Calls Try.prog 49 #[.agg #[.int .i64 W, .int .i64 H, .int .i64 E], .int .i64 x, .func (.func 48) #[] #[.pointer (some ⟨qk, 0, none⟩), .pointer (some ⟨qf, 0, none⟩)]] w fun e w' => e = .returned (.int .i64 r) ∧ EnvS k W H qk qf b w' ∧ w.grownBy w' (some b) := by
  obtain ⟨m, hm, h⟩ := Option.bind_eq_some_iff.1 h
  obtain ⟨n, hn, h⟩ := Option.bind_eq_some_iff.1 h
  obtain rfl := Option.some.inj h
  have e := add_form k W H E x m hm
  generalize m.2.2.1 = E1 at e hn
  generalize m.2.2.2 = y at e
  subst e
  have HM := Aside0.mk hm
  have HQ := Aside0.mk hn
  have HE := Aside0.mk hE
  have HF := Aside0.mk ih
  have hu := Try.underlying25
  generalize hw1 : w.alloc (.cells #[.int .i64 W, .int .i64 H, .int .i64 E] 25) = w1
  have HB1 : Aside0 (Below w.heap.size w w1) := ⟨by rw [← hw1]; exact (Below.refl _ _).alloc (Nat.le_refl _) _⟩
  have hblk : w1.heap[w.heap.size]? = some (.cells #[.int .i64 W, .int .i64 H, .int .i64 E] 25 (0, 0)) := by rw [← hw1]; simpa using heap_alloc_new w (.cells #[.int .i64 W, .int .i64 H, .int .i64 E] 25)
  have hc0 : w1.cell? ⟨w.heap.size, 0, none⟩ = some (.int .i64 W) := blk_cell hblk 0
  have hc1 : w1.cell? ⟨w.heap.size, 1, none⟩ = some (.int .i64 H) := blk_cell hblk 1
  have hc2 : w1.cell? ⟨w.heap.size, 2, none⟩ = some (.int .i64 E) := blk_cell hblk 2
  clear hm hn hE ih hblk h
  by_cases c : y > 0
  · rw [if_pos c]
    have hy : decide (y > 0) = true := by simpa using c
    go_enter Try.func49, Try.ntmps49
    go_wp2_with (first
      | (go_at_call 29; refine (impl_Boxes_add.calls k W H E x W H E1 y _ HM.out).mono ?_; rintro e w2 ⟨rfl, hb2⟩)
      | (go_at_call 48; refine (HF.out E1 n _ qk qf b ((HE.out.below (below_then HB1.out HB1.out.size hb2)).below (below_alloc (Below.refl _ _) _)) HQ.out).mono ?_; rintro e w4 ⟨rfl, he4, hg4⟩))
    go_ret
    exact ⟨rfl, he4, grown_then (grown_below (below_then (below_then HB1.out HB1.out.size hb2) (Nat.le_trans HB1.out.size hb2.size) (below_alloc (Below.refl _ _) _))) hg4⟩
  · rw [if_neg c]
    have hy : decide (y > 0) = false := by simpa using c
    go_enter Try.func49, Try.ntmps49
    go_wp2_with (first
      | (go_at_call 29; refine (impl_Boxes_add.calls k W H E x W H E1 y _ HM.out).mono ?_; rintro e w2 ⟨rfl, hb2⟩)
      | (go_at_call 48; refine (HF.out E1 n _ qk qf b ((HE.out.below (below_then HB1.out HB1.out.size hb2)).below (below_alloc (Below.refl _ _) _)) HQ.out).mono ?_; rintro e w4 ⟨rfl, he4, hg4⟩))
    go_ret
    exact ⟨rfl, he4, grown_then (grown_below (below_then (below_then HB1.out HB1.out.size hb2) (Nat.le_trans HB1.out.size hb2.size) (below_alloc (Below.refl _ _) _))) hg4⟩
theorem zero_int (w : World) : (zeroValue 2).run Try.prog w = .ok (.int .i64 0) w := by kernel_rfl
/-- The loop's world: the captured variables, and the position. -/
structure LoopS (k : Nat) (W H : Int) (qk qf b gs : Nat) (w0 : World) (E : Int) (w : World) : Prop where
  env : EnvS k W H qk qf b w
  st : w.heap[gs]? = some (.cells #[.int .i64 W, .int .i64 H, .int .i64 E] 25 (0, 0))
  grow : w0.grownBy w (some b)
section
variable {k : Nat} {W H E : Int} {qk qf b gs : Nat} {w0 w w' : World}
theorem LoopS.below (h : LoopS k W H qk qf b gs w0 E w) (hb : Below w.heap.size w w') : LoopS k W H qk qf b gs w0 E w' := ⟨h.env.below hb, blk_below h.st hb, grown_then h.grow (grown_below hb)⟩
theorem LoopS.grown (h : LoopS k W H qk qf b gs w0 E w) (he : EnvS k W H qk qf b w') (hg : w.grownBy w' (some b)) : LoopS k W H qk qf b gs w0 E w' := ⟨he, blk_grown h.st hg (h.env.memo.ne h.st), grown_then h.grow hg⟩
end
theorem mx_old {a b : Int} (h : b ≤ a) : mx a b = a := by unfold mx; rw [if_neg (by omega)]
theorem mx_new {a b : Int} (h : a < b) : mx a b = b := by unfold mx; rw [if_pos h]
theorem own_b {b n : Nat} (h : b < n) : ∀ k, n ≤ k → some k ≠ some b := fun k hk e => by have := Option.some.inj e; omega
set_option linter.unusedSimpArgs false
set_option maxRecDepth 100000
set_option maxHeartbeats 4000000 in
theorem score_step (k : Nat) (W H : Int) (d : Nat) (ih : FindS k W H d) : FindS k W H (d + 1) := by
  intro E r w qk qf b hE h0
  have h := h0
  simp only [scoreF] at h
  split at h
  rotate_left
  · cases h
  rename_i hok
  obtain ⟨l, hl, h⟩ := Option.bind_eq_some_iff.1 h
  have hwf : (Lit.int .i64 E).wf = true := WalkArith.wf_i64 (by have := hok; unfold okS at this; omega)
  have hkey := Maps.keyOf_int_mk Try.underlying2 hwf
  have HE0 := Aside0.mk hE
  generalize hw1 : w.alloc (.cells #[.int .i64 W, .int .i64 H, .int .i64 E] 25) = w1
  have HB1 : Aside0 (Below w.heap.size w w1) := ⟨by rw [← hw1]; exact (Below.refl _ _).alloc (Nat.le_refl _) _⟩
  have HS1 : Aside0 (LoopS k W H qk qf b w.heap.size w E w1) := ⟨⟨hE.below HB1.out, by rw [← hw1]; simpa using heap_alloc_new w (.cells #[.int .i64 W, .int .i64 H, .int .i64 E] 25), grown_below HB1.out⟩⟩
  have hck : w1.cell? ⟨qk, 0, none⟩ = some (.map (some b)) := blk_cell HS1.out.env.known 0
  have hc0 : w1.cell? ⟨w.heap.size, 0, none⟩ = some (.int .i64 W) := blk_cell HS1.out.st 0
  have hc1 : w1.cell? ⟨w.heap.size, 1, none⟩ = some (.int .i64 H) := blk_cell HS1.out.st 1
  have hc2 : w1.cell? ⟨w.heap.size, 2, none⟩ = some (.int .i64 E) := blk_cell HS1.out.st 2
  have hu := Try.underlying25
  have hlook := HS1.out.env.memo.look edgeLaw Try.underlying75 (zero_int w1) hkey
  rcases hlook with hmiss | ⟨v, hhit, hgood⟩
  · have HL := Aside0.mk hl
    have HF := Aside0.mk ih
    have HK := Aside0.mk hkey
    have HG : Aside0 (goodS k W H (.int .i64 E) (.int .i64 r)) := ⟨⟨E, d + 1, r, rfl, rfl, h0⟩⟩
    by_cases hz : l.length = 0
    · rw [if_pos hz] at h
      obtain rfl := Option.some.inj h
      obtain rfl := List.eq_nil_of_length_eq_zero hz
      clear h h0 hl hok hwf hkey hE ih hz
      go_enter Try.func48, Try.ntmps48
      go_wp2_with (go_at_call 32; refine (impl_Boxes_free.calls W H E [] _ HL.out).mono ?_; rintro e w4 ⟨v4, rfl, ho4, hb4⟩; obtain ⟨A4, c4, rfl, hl4, hC4⟩ := Kd.R_reads ho4)
      go_ret
      exact ⟨rfl, (HS1.out.below hb4).env, (HS1.out.below hb4).grow⟩
    · rw [if_neg hz] at h
      split at h
      rotate_left
      · cases h
      have HA : Aside0 (maxL (behindF (scoreF k W H d) k W H E) l (-100) = some r) := ⟨h⟩
      have hlz : ((l.length : Int) == 0) = false := beq_eq_false_iff_ne.2 (by omega)
      clear h h0 hl hok hwf hkey hE ih
      go_enter Try.func48, Try.ntmps48
      go_wp2_with (go_at_call 32; refine (impl_Boxes_free.calls W H E l _ HL.out).mono ?_; rintro e w4 ⟨v4, rfl, ho4, hb4⟩; obtain ⟨A4, c4, rfl, hl4, hC4⟩ := Kd.R_reads ho4)
      have HBM : Aside0 (b < w1.heap.size) := ⟨HS1.out.env.memo.lt⟩
      have HS4 : Aside0 (LoopS k W H qk qf b w.heap.size w E w4) := ⟨HS1.out.below hb4⟩
      have HO4 : Aside0 (Kd.R (Kd.int .i64) 2 w4 w1.heap.size (fun k_ => w1.heap.size ≤ k_) (.slice A4 l.length c4) l) := ⟨Kd.R_mono (Kd.R_bound ho4) (fun _ hk => hk.2.1)⟩
      clear ho4 hb4 hC4 hw1 hmiss hck hc0 hc1 hc2 HS1 HE0 HL hz
      go_loopg [8, 10, 27] l.length (fun gg' s8 _ s27 wr => ∃ (kk : Nat) (best : Int), kk ≤ l.length ∧ l.length - kk ≤ gg' ∧ s27 = .int .i64 kk ∧ s8 = .int .i64 best ∧ Aside0 (LoopS k W H qk qf b w.heap.size w E wr) ∧ Aside0 (Kd.R (Kd.int .i64) 2 wr w1.heap.size (fun k_ => w1.heap.size ≤ k_) (.slice A4 l.length c4) l) ∧ Aside0 (maxL (behindF (scoreF k W H d) k W H E) (l.drop kk) best = some r))
      case atStart => exact ⟨0, -100, Nat.zero_le _, by omega, rfl, rfl, HS4, HO4, ⟨by simpa using HA.out⟩⟩
      case round =>
        obtain ⟨kk, best, hkk, hgg, rfl, rfl, HS, HO, HA2⟩ := hrel
        clear HA HS4 HO4
        have hck : wr.cell? ⟨qk, 0, none⟩ = some (.map (some b)) := blk_cell HS.out.env.known 0
        have hcf : wr.cell? ⟨qf, 0, none⟩ = some (.func (.func 48) #[] #[.pointer (some ⟨qk, 0, none⟩), .pointer (some ⟨qf, 0, none⟩)]) := blk_cell HS.out.env.find 0
        have hc0 : wr.cell? ⟨w.heap.size, 0, none⟩ = some (.int .i64 W) := blk_cell HS.out.st 0
        have hc1 : wr.cell? ⟨w.heap.size, 1, none⟩ = some (.int .i64 H) := blk_cell HS.out.st 1
        have hc2 : wr.cell? ⟨w.heap.size, 2, none⟩ = some (.int .i64 E) := blk_cell HS.out.st 2
        by_cases hlt : kk < l.length
        · have hltz : (kk : Int) < (l.length : Int) := by omega
          obtain ⟨n, hn, HA3⟩ : ∃ n, behindF (scoreF k W H d) k W H E l[kk] = some n ∧ Aside0 (maxL (behindF (scoreF k W H d) k W H E) (l.drop (kk + 1)) (mx best n) = some r) := by
            have h1 := HA2.out
            rw [List.drop_eq_getElem_cons hlt] at h1
            simp only [maxL] at h1
            obtain ⟨n, hn, h2⟩ := Option.bind_eq_some_iff.1 h1
            exact ⟨n, hn, ⟨h2⟩⟩
          have hrd := (Kd.R_reads' HO.out).2.2
          obtain ⟨ad, e, hx⟩ := Kd.at_int hrd kk (by omega) hltz
          have hy : rd l (kk : Int) = l[kk] := by simp [rd, List.getD_eq_getElem?_getD, hlt]
          rw [hy, Int.toNat_natCast] at hx
          generalize l[kk] = y at hx hn
          cases e
          have hcall := behind_calls k W H d HF.out E y n wr qk qf b HS.out.env hn
          clear hn hy hrd HA2 hck
          go_wp2_with (go_at_call 49; refine hcall.mono ?_; rintro e w' ⟨rfl, he', hg'⟩)
          · go_roundg (l.length - (kk + 1))
            case measure => omega
            case rel => exact ⟨kk + 1, n, by omega, by omega, by go_num, rfl, ⟨HS.out.grown he' hg'⟩, ⟨Kd.R_grown HO.out hg' (own_b HBM.out)⟩, ⟨by have h1 := HA3.out; rwa [mx_new h] at h1⟩⟩
          · go_roundg (l.length - (kk + 1))
            case measure => omega
            case rel => exact ⟨kk + 1, best, by omega, by omega, by go_num, rfl, ⟨HS.out.grown he' hg'⟩, ⟨Kd.R_grown HO.out hg' (own_b HBM.out)⟩, ⟨by have h1 := HA3.out; rwa [mx_old h] at h1⟩⟩
        · have hltz : ¬ (kk : Int) < (l.length : Int) := by omega
          have HA4 : Aside0 (r = best) := ⟨by
            have h1 := HA2.out
            rw [List.drop_eq_nil_of_le (by omega)] at h1
            simp only [maxL, Option.some.injEq] at h1
            exact h1.symm⟩
          clear HA2
          have HG2 : Aside0 (goodS k W H (.int .i64 E) (.int .i64 best)) := ⟨by rw [← HA4.out]; exact HG.out⟩
          go_wp2_with (at_mapUpdate; refine wpList_mapUpdate_memo _ rfl _ _ _ 75 rfl 2 2 edgeLaw Try.underlying75 (goodS k W H) b rfl HS.out.env.memo (goodS_few k W H) _ _ _ rfl rfl HK.out HG2.out ?_; intro w5 hm5 hg5)
          go_ret
          exact ⟨congrArg (fun z => Ending.returned (.int .i64 z)) HA4.out.symm, HS.out.env.grown hg5 hm5, grown_then HS.out.grow hg5⟩
  · obtain ⟨E', d', r', e, rfl, hw⟩ := hgood
    obtain rfl : E = E' := by injection e
    obtain rfl := scoreF_one k W H _ _ E r r' h0 hw
    clear h h0 hw e hl hok hwf hkey hE ih
    go_enter Try.func48, Try.ntmps48
    go_wp2_with fail
    go_ret
    exact ⟨rfl, HS1.out.env, HS1.out.grow⟩
theorem score_at (k : Nat) (W H : Int) (d : Nat) : FindS k W H d := by
  induction d with
  | zero => intro E r w qk qf b _ h; cases h
  | succ d ih => exact score_step k W H d ih
theorem allocs3 (w : World) (o0 o1 o2 : Obj) : (((w.alloc o0).alloc o1).alloc o2).heap[w.heap.size]? = some o0 ∧ (((w.alloc o0).alloc o1).alloc o2).heap[w.heap.size + 1]? = some o1 ∧
    (((w.alloc o0).alloc o1).alloc o2).heap[w.heap.size + 2]? = some o2 ∧ Below w.heap.size w (((w.alloc o0).alloc o1).alloc o2) := by
  refine ⟨?_, ?_, ?_, (((Below.refl _ _).alloc (Nat.le_refl _) _).alloc (by simp <;> omega) _).alloc (by simp <;> omega) _⟩
  · rw [(MapKept.heap_alloc _ _).2 _ (by simp <;> omega), (MapKept.heap_alloc _ _).2 _ (by simp)]
    exact (MapKept.heap_alloc w o0).1
  · rw [(MapKept.heap_alloc _ _).2 _ (by simp <;> omega)]
    simpa using (MapKept.heap_alloc (w.alloc o0) o1).1
  · simpa using (MapKept.heap_alloc ((w.alloc o0).alloc o1) o2).1
theorem Memo.new {P : Program} {q : TypeId} {good : Value → Value → Prop} {w : World} {b : Nat} (h : w.heap[b]? = some (.map #[] 0)) : Memo P q good w b := ⟨#[], 0, h, ⟨by simp, MapKept.stamped_empty 0, by simp⟩, by simp⟩
set_option maxHeartbeats 1000000 in
theorem scores_calls (k : Nat) (W H : Int) (w : World) : Calls Try.prog 22 #[] w fun e w' => ∃ qk qf b : Nat, e = .returned (.func (.func 48) #[] #[.pointer (some ⟨qk, 0, none⟩), .pointer (some ⟨qf, 0, none⟩)]) ∧ EnvS k W H qk qf b w' ∧ Below w.heap.size w w' ∧ w.heap.size ≤ b := by
  have hmm := @run_makeMap Try.prog
  have hsf : ∀ (W : World) (a : Addr) (m : Mode) (fn : Fn) (f c : Array Value), (store a (.func fn f c) m).run Try.prog W = stored Try.prog W a (.func fn f c) m := fun W a m fn f c => run_store Try.prog W a _ m rfl
  go_enter Try.func22, Try.ntmps22
  go_wp2
  go_ret
  exact ⟨w.heap.size + 1, w.heap.size + 2, w.heap.size, rfl, ⟨(allocs3 w _ _ _).2.1, (allocs3 w _ _ _).2.2.1, Memo.new (allocs3 w _ _ _).1⟩, (allocs3 w _ _ _).2.2.2, Nat.le_refl _⟩
end Go.Proofs.Ytelfllbjcpndfaa.Q
