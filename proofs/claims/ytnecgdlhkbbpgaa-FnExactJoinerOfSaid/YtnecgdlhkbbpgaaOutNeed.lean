/-
  (impl.Hex).need, told as the printed functions are: the least number of cells by passes over values of cells until none changes anything. Boards of sides 1 to 8.
-/
import Derived.Test.YtnecgdlhkbbpgaaHexBoard
import Derived.Test.YtnecgdlhkbbpgaaQ6
namespace Go.Proofs.Ytnecgdlhkbbpgaa.Q
open Go.RowKit Go.Proofs.YtnecgdlhkbbpgaaW.PrintWords Go.Proofs.YtnecgdlhkbbpgaaW.PrintLast Go.Proofs.YtnecgdlhkbbpgaaW.PrintMore
open Go.Maps (Keyed)
open Go.Proofs.Ytnecgdlhkbbpgaa.B
set_option linter.unusedVariables false

def noneF : FarI := fun _ => none
def impl_Hex_need.f (k : Nat) (a : Int) (l : List Int) (p : Int) : Option Int := if 1 ≤ a ∧ a ≤ 8 ∧ (l.length : Int) = a * a then (passesI a p l k (startI a p l (upto l.length) noneF)).bind fun F => if (upto l.length).all (fun c => match F c with | none => true | some v => decide (0 ≤ v)) = true then some (bestI a p F (upto l.length) (-1)) else none else none
theorem impl_Hex_need.mono : ∀ a0 l1 a1 k, LeO (impl_Hex_need.f k a0 l1 a1) (impl_Hex_need.f (k + 1) a0 l1 a1) := by
  intro a0 l1 a1 k
  unfold impl_Hex_need.f
  refine LeO.ite (LeO.bind ?_ (fun _ => LeO.refl _)) (LeO.refl _)
  intro r h
  exact passesI_mono _ _ _ k _ r h
/-- In the search: the board and the values so far. -/
structure NeedS (w0 : World) (a : Int) (A0 : Option Addr) (n c0 : Nat) (p : Int) (gx gp bm : Nat) (F : FarI) (w : World) : Prop where
  board : BoardS w0 a A0 n c0 p gx gp w
  tab : TabM Try.prog 2 (Value.int .i64) (Value.int .i64) F w bm
  dom : DomI n F
  ge : w0.heap.size ≤ bm
section
variable {w0 w w' : World} {a : Int} {A0 : Option Addr} {n c0 : Nat} {p : Int} {gx gp bm : Nat} {F : FarI}
theorem NeedS.step (h : Aside0 (NeedS w0 a A0 n c0 p gx gp bm F w)) (hb : Below w.heap.size w w') : Aside0 (NeedS w0 a A0 n c0 p gx gp bm F w') :=
  ⟨(BoardS.step ⟨h.out.board⟩ hb).out, h.out.tab.below hb, h.out.dom, h.out.ge⟩
theorem NeedS.put (h : Aside0 (NeedS w0 a A0 n c0 p gx gp bm F w)) {c v : Int} (ht : TabM Try.prog 2 (Value.int .i64) (Value.int .i64) (fun z => if z = c then some v else F z) w' bm) (hg : w.grownBy w' (some bm)) (h0 : 0 ≤ c) (h1 : c < (n : Int)) (hv : (Lit.int .i64 v).wf = true) : Aside0 (NeedS w0 a A0 n c0 p gx gp bm (putI F c v) w') :=
  ⟨(BoardS.turned ⟨h.out.board⟩ h.out.tab hg h.out.ge).out, ht, h.out.dom.put h0 h1 hv, h.out.ge⟩
theorem NeedS.b (h : Aside0 (NeedS w0 a A0 n c0 p gx gp bm F w)) : Aside0 (BoardS w0 a A0 n c0 p gx gp w) := ⟨h.out.board⟩
theorem NeedS.row {l : List Int} (h : Aside0 (NeedS w0 a A0 n c0 p gx gp bm F w)) (hr : Kd.C (Kd.int .i64) w0 A0 l.length l) : Kd.C (Kd.int .i64) w A0 l.length l := Kd.C_below hr h.out.board.below
theorem NeedS.new (l : List Int) (a p : Int) (A0 : Option Addr) (c0 : Nat) (w : World) : Aside0 (NeedS w a A0 l.length c0 p w.heap.size (w.heap.size + 1) (w.heap.size + 2) noneF (((w.alloc (.cells #[.int .i64 a, .slice A0 l.length c0] 32)).alloc (.cells #[.int .i64 p] 2)).alloc (.map #[] 0))) := by
  have e1 : (w.alloc (.cells #[.int .i64 a, .slice A0 l.length c0] 32)).heap.size = w.heap.size + 1 := by simp
  have e2 : ((w.alloc (.cells #[.int .i64 a, .slice A0 l.length c0] 32)).alloc (.cells #[.int .i64 p] 2)).heap.size = w.heap.size + 2 := by simp
  refine ⟨⟨?_, ?_, ?_⟩, ?_, ?_, by omega⟩
  · rw [(MapKept.heap_alloc _ _).2 _ (by simp <;> omega), (MapKept.heap_alloc _ _).2 _ (by simp <;> omega)]
    exact heap_alloc_new w _
  · rw [(MapKept.heap_alloc _ _).2 _ (by simp <;> omega)]
    have := heap_alloc_new (w.alloc (.cells #[.int .i64 a, .slice A0 l.length c0] 32)) (.cells #[.int .i64 p] 2)
    rwa [e1] at this
  · exact (((Below.refl _ _).alloc (Nat.le_refl _) _).alloc (by simp <;> omega) _).alloc (by simp <;> omega) _
  · have := TabM.made ((w.alloc (.cells #[.int .i64 a, .slice A0 l.length c0] 32)).alloc (.cells #[.int .i64 p] 2)) Try.prog 2 (Value.int .i64 : Int → Value) (Value.int .i64 : Int → Value)
    rwa [e2] at this
  · intro c v h
    cases h
end
structure InN (w0 : World) (a : Int) (A0 : Option Addr) (n c0 : Nat) (p : Int) (gx gp bm : Nat) (F : FarI) (u : Value) (ms : List Int) (w : World) : Prop where
  need : NeedS w0 a A0 n c0 p gx gp bm F w
  moves : Kd.R (Kd.int .i64) 2 w w0.heap.size (fun _ => True) u ms
section
variable {w0 w w' : World} {a : Int} {A0 : Option Addr} {n c0 : Nat} {p : Int} {gx gp bm : Nat} {F : FarI} {u : Value} {ms : List Int}
theorem InN.step (h : Aside0 (InN w0 a A0 n c0 p gx gp bm F u ms w)) (hb : Below w.heap.size w w') : Aside0 (InN w0 a A0 n c0 p gx gp bm F u ms w') := ⟨(NeedS.step ⟨h.out.need⟩ hb).out, Kd.R_below h.out.moves hb⟩
theorem InN.put (h : Aside0 (InN w0 a A0 n c0 p gx gp bm F u ms w)) {c v : Int} (ht : TabM Try.prog 2 (Value.int .i64) (Value.int .i64) (fun z => if z = c then some v else F z) w' bm) (hg : w.grownBy w' (some bm)) (h0 : 0 ≤ c) (h1 : c < (n : Int)) (hv : (Lit.int .i64 v).wf = true) : Aside0 (InN w0 a A0 n c0 p gx gp bm (putI F c v) u ms w') := by
  refine ⟨(NeedS.put ⟨h.out.need⟩ ht hg h0 h1 hv).out, ?_⟩
  refine Kd.R_mono (Kd.R_step (Kd.R_bound h.out.moves) (fun k hk hlt => ?_)) (fun _ hk => hk.1)
  obtain ⟨_, _, _, q, _, cells, hc⟩ := hk
  exact hg.block k hlt (h.out.need.tab.ne hc)
theorem InN.need1 (h : Aside0 (InN w0 a A0 n c0 p gx gp bm F u ms w)) : Aside0 (NeedS w0 a A0 n c0 p gx gp bm F w) := ⟨h.out.need⟩
theorem InN.b (h : Aside0 (InN w0 a A0 n c0 p gx gp bm F u ms w)) : Aside0 (BoardS w0 a A0 n c0 p gx gp w) := ⟨h.out.need.board⟩
end
/-- At the end: the board, and the values under range. -/
structure LastS (w0 : World) (a : Int) (A0 : Option Addr) (n c0 : Nat) (p : Int) (gx gp bm r : Nat) (F : FarI) (todo : List Int) (w : World) : Prop where
  board : BoardS w0 a A0 n c0 p gx gp w
  rng : RangeM Try.prog 2 2 (Value.int .i64) F w bm r todo
  ge : w0.heap.size ≤ r
section
variable {w0 w w' : World} {a : Int} {A0 : Option Addr} {n c0 : Nat} {p : Int} {gx gp bm r : Nat} {F : FarI} {todo todo' : List Int}
theorem LastS.step (h : Aside0 (LastS w0 a A0 n c0 p gx gp bm r F todo w)) (hb : Below w.heap.size w w') : Aside0 (LastS w0 a A0 n c0 p gx gp bm r F todo w') :=
  ⟨(BoardS.step ⟨h.out.board⟩ hb).out, h.out.rng.below hb, h.out.ge⟩
theorem LastS.next (h : Aside0 (LastS w0 a A0 n c0 p gx gp bm r F todo w)) (hr : RangeM Try.prog 2 2 (Value.int .i64) F w' bm r todo') (hg : w.grownBy w' (some r)) : Aside0 (LastS w0 a A0 n c0 p gx gp bm r F todo' w') :=
  ⟨⟨blk_grown h.out.board.board hg (h.out.rng.ne h.out.board.board).2, blk_grown h.out.board.player hg (h.out.rng.ne h.out.board.player).2, grown_fromX h.out.board.below h.out.ge hg⟩, hr, h.out.ge⟩
theorem LastS.sees (h : Aside0 (LastS w0 a A0 n c0 p gx gp bm r F todo w)) : w.cell? ⟨gx, 0, none⟩ = some (.int .i64 a) ∧ w.cell? ⟨gx, 1, none⟩ = some (.slice A0 n c0) ∧ w.cell? ⟨gp, 0, none⟩ = some (.int .i64 p) :=
  ⟨blk_cell h.out.board.board 0, blk_cell h.out.board.board 1, blk_cell h.out.board.player 0⟩
end
def need31T : Bool × List (List Nat × List Nat) := (true, [([], []), ([], []), ([], []), ([0, 1, 2], [0, 1, 2]), ([], []), ([4], [4]), ([5], [5]), ([3, 6], [3, 6]), ([7, 3], [7]), ([8], [8]), ([9, 8], [8, 9]), ([10, 8, 8], [8, 10]), ([11], [11]), ([11], [11]), ([12, 13, 11], [11, 12, 13]), ([11, 14, 8], [8, 11, 14]), ([8, 15], [8, 15])])
def need31B : List Nat := [0, 0, 0, 7, 0, 16, 48, 127, 255, 511, 1023, 2047, 4095, 4095, 16383, 32767, 65535]
theorem need31_tab : rtab .any (opsOf Try.f49 31) = need31T := by kernel_rfl
theorem need31_bits : waitsOk need31T.2 need31B = true := by kernel_rfl
abbrev NS (w : World) (a : Int) (A0 : Option Addr) (l : List Int) (c0 : Nat) (p : Int) (F : FarI) (wr : World) : Prop := NeedS w a A0 l.length c0 p w.heap.size (w.heap.size + 1) (w.heap.size + 2) F wr
set_option linter.unusedSimpArgs false
set_option maxRecDepth 100000
set_option maxHeartbeats 40000000 in
theorem impl_Hex_need.calls (k : Nat) (a : Int) (A0 : Option Addr) (c0 : Nat) (l : List Int) (p : Int) (r : Int) (w : World) (hr0 : Kd.C (Kd.int .i64) w A0 l.length l) (hc0 : l.length ≤ c0) (h : impl_Hex_need.f k a l p = some r) :
    Calls Try.prog 49 #[.agg #[.int .i64 a, .slice A0 l.length c0], .int .i64 p] w fun e w' => e = .returned (.int .i64 r) ∧ Below w.heap.size w w' := by
  unfold impl_Hex_need.f at h
  split at h
  rotate_left
  · cases h
  rename_i hcond
  obtain ⟨ha1, ha8, hla⟩ := hcond
  obtain ⟨FF, hFF, h⟩ := Option.bind_eq_some_iff.1 h
  split at h
  rotate_left
  · cases h
  rename_i hall
  obtain rfl := Option.some.inj h
  have hle : l.length ≤ 64 := by
    have : a = 1 ∨ a = 2 ∨ a = 3 ∨ a = 4 ∨ a = 5 ∨ a = 6 ∨ a = 7 ∨ a = 8 := by omega
    rcases this with rfl | rfl | rfl | rfl | rfl | rfl | rfl | rfl <;> omega
  have HR := Aside0.mk hr0
  have HP := Aside0.mk hFF
  have HA := Aside0.mk hall
  have HL := Aside0.mk hla
  have HLE := Aside0.mk hle
  have HN0 := NeedS.new l a p A0 c0 w
  clear h hFF hall hr0 hla
  generalize hw1 : ((w.alloc (.cells #[.int .i64 a, .slice A0 l.length c0] 32)).alloc (.cells #[.int .i64 p] 2)).alloc (.map #[] 0) = w1 at HN0
  have hu := Try.underlying32
  have hmm := @run_makeMap Try.prog
  have hz := Try.zeroValue2
  have hcx1 : w1.cell? ⟨w.heap.size, 1, none⟩ = some (.slice A0 l.length c0) := blk_cell HN0.out.board.board 1
  go_enter Try.func49, Try.ntmps49
  go_wp2_with (go_at_call 39; refine (impl_size_int64.calls A0 c0 l _ _ (NeedS.row HN0 HR.out) hc0 rfl).mono ?_; rintro e w' ⟨rfl, nd, rfl⟩)
  have HN1 : Aside0 (NS w a A0 l c0 p noneF (w1.drewN nd)) := NeedS.step HN0 (pw_below_drewN (Below.refl _ _) nd)
  generalize w1.drewN nd = w2 at HN1 ⊢
  clear HN0 hcx1 hw1
  have ha0 : a ≠ 0 := by omega
  obtain ⟨F0, hF0⟩ : ∃ F0, F0 = startI a p l (upto l.length) noneF := ⟨_, rfl⟩
  rw [← hF0] at HP
  have HF0 := Aside0.mk hF0.symm
  clear hF0
  have hlz : (l.length : Int) ≤ 64 := by omega
  go_loopg [26] l.length (fun gk v26 wr => ∃ (i : Nat) (F : FarI), v26 = .int .i64 i ∧ i ≤ l.length ∧ l.length - i ≤ gk ∧ Aside0 (startI a p l ((upto l.length).drop i) F = F0) ∧ Aside0 (NS w a A0 l c0 p F wr))
  case atStart => exact ⟨0, noneF, rfl, by omega, by omega, by simpa using HF0, HN1⟩
  case round =>
    clear HN1 HF0 w2
    obtain ⟨i, F, rfl, hi, hgi, HF, HN⟩ := hrel
    by_cases hlt : i < l.length
    · have hltz : (i : Int) < (l.length : Int) := by omega
      have hx0 : wr.cell? ⟨w.heap.size, 0, none⟩ = some (.int .i64 a) := blk_cell HN.out.board.board 0
      have hx1 : wr.cell? ⟨w.heap.size, 1, none⟩ = some (.slice A0 l.length c0) := blk_cell HN.out.board.board 1
      have hxp : wr.cell? ⟨w.heap.size + 1, 0, none⟩ = some (.int .i64 p) := blk_cell HN.out.board.player 0
      have HLN := Aside0.mk (line_eq a l p i ha0)
      rw [upto_drop _ _ hlt, startI] at HF
      by_cases hln : lineI a p i = 0
      · rw [hln] at HLN HF
        cases hop : openI l p i with
        | false =>
          rw [hop] at HF
          go_wp2_with (first
            | (go_at_call 57; refine (impl_Hex_line.calls a A0 c0 l p i 0 _ (NeedS.row HN HR.out) hc0 HLN.out).mono ?_; rintro e w3 ⟨rfl, hb3⟩; have HN3 := NeedS.step HN hb3)
            | (go_at_call 56; refine (open_calls w a A0 c0 p w.heap.size (w.heap.size + 1) l i _ (NeedS.row HN3 HR.out) hc0 (NeedS.b HN3) (by omega) hltz false hop).mono ?_; rintro e w4 ⟨rfl, hb4⟩; have HN4 := NeedS.step HN3 hb4))
          go_roundg (l.length - (i + 1))
          case measure => omega
          case rel => exact ⟨i + 1, F, by go_num, by omega, by omega, by simpa using HF, HN4⟩
        | true =>
          rw [hop] at HF
          go_wp2_with (first
            | (go_at_call 57; refine (impl_Hex_line.calls a A0 c0 l p i 0 _ (NeedS.row HN HR.out) hc0 HLN.out).mono ?_; rintro e w3 ⟨rfl, hb3⟩; have HN3 := NeedS.step HN hb3)
            | (go_at_call 56; refine (open_calls w a A0 c0 p w.heap.size (w.heap.size + 1) l i _ (NeedS.row HN3 HR.out) hc0 (NeedS.b HN3) (by omega) hltz true hop).mono ?_; rintro e w4 ⟨rfl, hb4⟩; have HN4 := NeedS.step HN3 hb4)
            | (go_at_call 55; refine (cost_calls w a A0 c0 p w.heap.size (w.heap.size + 1) l i _ (NeedS.row HN4 HR.out) hc0 (NeedS.b HN4) (by omega) hltz).mono ?_; rintro e w5 ⟨rfl, hb5⟩; have HN5 := NeedS.step HN4 hb5)
            | (at_mapUpdate; refine wpList_mapUpdate_tab _ rfl _ _ _ 66 rfl 2 intLaw Try.underlying66 int_inj (upto l.length) (by rw [upto_len]; unfold maxLen; omega) (fun z v hz => (mem_upto _ _).2 ⟨(HN5.out.dom z v hz).1, (HN5.out.dom z v hz).2.1⟩) rfl HN5.out.tab (i : Int) (costI l i) rfl rfl (int_key _ _ (by omega) hltz hle) ?_; intro w6 ht6 hg6; have HN6 := NeedS.put HN5 ht6 hg6 (by omega) hltz (costI_wf l i)))
          go_roundg (l.length - (i + 1))
          case measure => omega
          case rel => exact ⟨i + 1, putI F i (costI l i), by go_num, by omega, by omega, by simpa using HF, HN6⟩
      · have hlb : (lineI a p i == 0) = false := beq_eq_false_iff_ne.mpr hln
        simp only [hln, false_and, if_false] at HF
        generalize lineI a p i = ln at HLN hlb
        go_wp2_with (go_at_call 57; refine (impl_Hex_line.calls a A0 c0 l p i ln _ (NeedS.row HN HR.out) hc0 HLN.out).mono ?_; rintro e w3 ⟨rfl, hb3⟩; have HN3 := NeedS.step HN hb3)
        go_roundg (l.length - (i + 1))
        case measure => omega
        case rel => exact ⟨i + 1, F, by go_num, by omega, by omega, HF, HN3⟩
    · have hltz : ¬ (i : Int) < (l.length : Int) := by omega
      have hF : F = F0 := by
        have := HF.out
        rwa [List.drop_eq_nil_of_le (by rw [upto_len]; omega), startI] at this
      subst hF
      go_wp2
      clear HF
      have HPB : Aside0 (if true = true then passesI a p l k F = some FF else F = FF) := ⟨by simpa using HP.out⟩
      clear HP
      go_loopg [9] k (fun gj v9 wr => ∃ (ch : Bool) (F : FarI) (j : Nat), v9 = .bool ch ∧ j ≤ gj ∧ Aside0 (if ch = true then passesI a p l j F = some FF else F = FF) ∧ Aside0 (NS w a A0 l c0 p F wr))
      case atStart => exact ⟨true, F, k, rfl, Nat.le_refl _, HPB, HN⟩
      case round =>
        clear HPB HN
        obtain ⟨ch, F, j, rfl, hj, HP, HN⟩ := hrel
        cases ch with
        | true =>
          cases j with
          | zero => exact absurd HP.out (by simp [passesI])
          | succ j =>
            obtain ⟨S, hS⟩ : ∃ S, S = cellI a p l (upto l.length) (F, false) := ⟨_, rfl⟩
            have HPS : Aside0 (if S.2 = true then passesI a p l j S.1 = some FF else S.1 = FF) := ⟨by
              have := HP.out
              rw [if_pos rfl, passesI, ← hS] at this
              by_cases hc : S.2 = true
              · rw [if_pos hc] at this ⊢
                exact this
              · rw [if_neg hc] at this ⊢
                exact Option.some.inj this⟩
            have HS := Aside0.mk hS.symm
            clear HP hS
            have hx1 : wr.cell? ⟨w.heap.size, 1, none⟩ = some (.slice A0 l.length c0) := blk_cell HN.out.board.board 1
            go_wp2_with (go_at_call 39; refine (impl_size_int64.calls A0 c0 l _ _ (NeedS.row HN HR.out) hc0 rfl).mono ?_; rintro e w' ⟨rfl, nd, rfl⟩)
            have HN2 : Aside0 (NS w a A0 l c0 p F (wr.drewN nd)) := NeedS.step HN (pw_below_drewN (Below.refl _ _) nd)
            generalize wr.drewN nd = w2 at HN2 ⊢
            go_loopg [9, 49] l.length (fun gi v9 v49 wr => ∃ (i : Nat) (F : FarI) (ch : Bool), v9 = .bool ch ∧ v49 = .int .i64 i ∧ i ≤ l.length ∧ l.length - i ≤ gi ∧ Aside0 (cellI a p l ((upto l.length).drop i) (F, ch) = S) ∧ Aside0 (NS w a A0 l c0 p F wr))
            case atStart => exact ⟨0, F, false, rfl, rfl, by omega, by omega, by simpa using HS, HN2⟩
            case round =>
              clear HN HN2 HS hx1
              obtain ⟨i, F, ch, rfl, rfl, hi, hgi, HS, HN⟩ := hrel
              by_cases hlt : i < l.length
              · have hltz : (i : Int) < (l.length : Int) := by omega
                rw [upto_drop _ _ hlt, cellI] at HS
                cases hFi : F i with
                | none =>
                  simp only [hFi] at HS
                  have hlook := HN.out.tab.look_none intLaw Try.underlying66 (hz wr) int_inj (i : Int) (int_key _ _ (by omega) hltz hle) hFi
                  go_wp2
                  go_roundg (l.length - (i + 1))
                  case measure => omega
                  case rel => exact ⟨i + 1, F, ch, rfl, by go_num, by omega, by omega, HS, HN⟩
                | some n =>
                  simp only [hFi] at HS
                  have hlook := HN.out.tab.look_some intLaw Try.underlying66 (hz wr) int_inj (i : Int) (int_key _ _ (by omega) hltz hle) n hFi
                  have hx0 : wr.cell? ⟨w.heap.size, 0, none⟩ = some (.int .i64 a) := blk_cell HN.out.board.board 0
                  obtain ⟨_, hnear, hn6, hnr⟩ := near_facts a i ha1 ha8 (by omega) (by rw [← HL.out]; exact hltz)
                  have HNR : Aside0 (∀ x ∈ nearL a i, 0 ≤ x ∧ x < (l.length : Int)) := ⟨fun x hx => by rw [HL.out]; exact hnr x hx⟩
                  have HNE := Aside0.mk hnear
                  clear hnear hnr
                  generalize nearL a i = ms at HS HNR HNE hn6
                  go_wp2_with (go_at_call 36; refine (impl_near.calls 7 a i ms _ HNE.out).mono ?_; rintro e w8 ⟨v8, rfl, ho8, hb8⟩; obtain ⟨A8, x8, rfl⟩ := Kd.R_slice ho8; have HI8 : Aside0 (InN w a A0 l.length c0 p w.heap.size (w.heap.size + 1) (w.heap.size + 2) F (.slice A8 ms.length x8) ms w8) := ⟨(NeedS.step HN hb8).out, Kd.R_lower ho8 HN.out.board.below.size⟩)
                  clear hlook hx0 HN ho8 hb8
                  obtain ⟨T, hT⟩ : ∃ T, T = nextI l p n ms (F, ch) := ⟨_, rfl⟩
                  rw [← hT] at HS
                  have HT := Aside0.mk hT.symm
                  clear hT
                  go_loopg [9, 65] ms.length (fun gg v9 v65 wr => ∃ (j : Nat) (F : FarI) (ch : Bool), v9 = .bool ch ∧ v65 = .int .i64 j ∧ j ≤ ms.length ∧ ms.length - j ≤ gg ∧ Aside0 (nextI l p n (ms.drop j) (F, ch) = T) ∧ Aside0 (InN w a A0 l.length c0 p w.heap.size (w.heap.size + 1) (w.heap.size + 2) F (.slice A8 ms.length x8) ms wr))
                  case atStart => exact ⟨0, F, ch, rfl, rfl, by omega, by omega, by simpa using HT, HI8⟩
                  case round =>
                    clear HI8 HT hFi
                    obtain ⟨q, F, ch, rfl, rfl, hq, hgq, HT, HI⟩ := hrel
                    by_cases hql : q < ms.length
                    · have hqz : (q : Int) < (ms.length : Int) := by omega
                      have hCm := (Kd.R_reads' HI.out.moves).2.2
                      obtain ⟨ad8, e8, hx8⟩ := Kd.at_int hCm q (by omega) hqz
                      have hy8 : rd ms (q : Int) = ms[q] := by simp [rd, List.getD_eq_getElem?_getD, hql]
                      rw [hy8, Int.toNat_natCast] at hx8
                      rw [List.drop_eq_getElem_cons hql, nextI] at HT
                      obtain ⟨hm0, hm1⟩ := HNR.out ms[q] (List.getElem_mem hql)
                      generalize ms[q] = x at hx8 HT hm0 hm1
                      cases e8
                      clear hCm hy8
                      have hkx := int_key x l.length hm0 hm1 hle
                      cases hop : openI l p x with
                      | false =>
                        simp only [hop, Bool.false_eq_true, false_and, if_false] at HT
                        cases hFx : F x with
                        | none =>
                          have hlook2 := HI.out.need.tab.look_none intLaw Try.underlying66 (hz wr) int_inj x hkx hFx
                          go_wp2_with (go_at_call 56; refine (open_calls w a A0 c0 p w.heap.size (w.heap.size + 1) l x _ (NeedS.row (InN.need1 HI) HR.out) hc0 (InN.b HI) hm0 hm1 false hop).mono ?_; rintro e w4 ⟨rfl, hb4⟩; have HI4 := InN.step HI hb4)
                          go_roundg (ms.length - (q + 1))
                          case measure => omega
                          case rel => exact ⟨q + 1, F, ch, rfl, by go_num, by omega, by omega, HT, HI4⟩
                        | some m =>
                          have hlook2 := HI.out.need.tab.look_some intLaw Try.underlying66 (hz wr) int_inj x hkx m hFx
                          go_wp2_with (go_at_call 56; refine (open_calls w a A0 c0 p w.heap.size (w.heap.size + 1) l x _ (NeedS.row (InN.need1 HI) HR.out) hc0 (InN.b HI) hm0 hm1 false hop).mono ?_; rintro e w4 ⟨rfl, hb4⟩; have HI4 := InN.step HI hb4)
                          go_roundg (ms.length - (q + 1))
                          case measure => omega
                          case rel => exact ⟨q + 1, F, ch, rfl, by go_num, by omega, by omega, HT, HI4⟩
                      | true =>
                        cases hFx : F x with
                        | none =>
                          simp only [hop, hFx, lessI, and_self, if_true] at HT
                          have hlook2 := HI.out.need.tab.look_none intLaw Try.underlying66 (hz wr) int_inj x hkx hFx
                          go_wp2_with (first | (go_at_call 56; refine (open_calls w a A0 c0 p w.heap.size (w.heap.size + 1) l x _ (NeedS.row (InN.need1 HI) HR.out) hc0 (InN.b HI) hm0 hm1 true hop).mono ?_; rintro e w4 ⟨rfl, hb4⟩; have HI4 := InN.step HI hb4) | (go_at_call 55; refine (cost_calls w a A0 c0 p w.heap.size (w.heap.size + 1) l x _ (NeedS.row (InN.need1 HI4) HR.out) hc0 (InN.b HI4) hm0 hm1).mono ?_; rintro e w5 ⟨rfl, hb5⟩; have HI5 := InN.step HI4 hb5) | (at_mapUpdate; refine wpList_mapUpdate_tab _ rfl _ _ _ 66 rfl 2 intLaw Try.underlying66 int_inj (upto l.length) (by rw [upto_len]; unfold maxLen; omega) (fun z v hz => (mem_upto _ _).2 ⟨(HI5.out.need.dom z v hz).1, (HI5.out.need.dom z v hz).2.1⟩) rfl HI5.out.need.tab x (wrap64 (n + costI l x)) rfl rfl hkx ?_; intro w9 ht9 hg9; have HI9 := InN.put HI5 ht9 hg9 hm0 hm1 (wrap64_wf _)))
                          go_roundg (ms.length - (q + 1))
                          case measure => omega
                          case rel => exact ⟨q + 1, putI F x (wrap64 (n + costI l x)), true, rfl, by go_num, by omega, by omega, HT, HI9⟩
                        | some m =>
                          by_cases hlm : wrap64 (n + costI l x) < m
                          · simp only [hop, hFx, lessI, hlm, decide_true, and_self, if_true] at HT
                            have hlook2 := HI.out.need.tab.look_some intLaw Try.underlying66 (hz wr) int_inj x hkx m hFx
                            go_wp2_with (first | (go_at_call 56; refine (open_calls w a A0 c0 p w.heap.size (w.heap.size + 1) l x _ (NeedS.row (InN.need1 HI) HR.out) hc0 (InN.b HI) hm0 hm1 true hop).mono ?_; rintro e w4 ⟨rfl, hb4⟩; have HI4 := InN.step HI hb4) | (go_at_call 55; refine (cost_calls w a A0 c0 p w.heap.size (w.heap.size + 1) l x _ (NeedS.row (InN.need1 HI4) HR.out) hc0 (InN.b HI4) hm0 hm1).mono ?_; rintro e w5 ⟨rfl, hb5⟩; have HI5 := InN.step HI4 hb5) | (go_at_call 55; refine (cost_calls w a A0 c0 p w.heap.size (w.heap.size + 1) l x _ (NeedS.row (InN.need1 HI5) HR.out) hc0 (InN.b HI5) hm0 hm1).mono ?_; rintro e w6 ⟨rfl, hb6⟩; have HI6 := InN.step HI5 hb6) | (at_mapUpdate; refine wpList_mapUpdate_tab _ rfl _ _ _ 66 rfl 2 intLaw Try.underlying66 int_inj (upto l.length) (by rw [upto_len]; unfold maxLen; omega) (fun z v hz => (mem_upto _ _).2 ⟨(HI6.out.need.dom z v hz).1, (HI6.out.need.dom z v hz).2.1⟩) rfl HI6.out.need.tab x (wrap64 (n + costI l x)) rfl rfl hkx ?_; intro w9 ht9 hg9; have HI9 := InN.put HI6 ht9 hg9 hm0 hm1 (wrap64_wf _)))
                            go_roundg (ms.length - (q + 1))
                            case measure => omega
                            case rel => exact ⟨q + 1, putI F x (wrap64 (n + costI l x)), true, rfl, by go_num, by omega, by omega, HT, HI9⟩
                          · simp only [hop, hFx, lessI, hlm, decide_false, Bool.false_eq_true, and_false, if_false] at HT
                            have hlook2 := HI.out.need.tab.look_some intLaw Try.underlying66 (hz wr) int_inj x hkx m hFx
                            go_wp2_with (first | (go_at_call 56; refine (open_calls w a A0 c0 p w.heap.size (w.heap.size + 1) l x _ (NeedS.row (InN.need1 HI) HR.out) hc0 (InN.b HI) hm0 hm1 true hop).mono ?_; rintro e w4 ⟨rfl, hb4⟩; have HI4 := InN.step HI hb4) | (go_at_call 55; refine (cost_calls w a A0 c0 p w.heap.size (w.heap.size + 1) l x _ (NeedS.row (InN.need1 HI4) HR.out) hc0 (InN.b HI4) hm0 hm1).mono ?_; rintro e w5 ⟨rfl, hb5⟩; have HI5 := InN.step HI4 hb5))
                            go_roundg (ms.length - (q + 1))
                            case measure => omega
                            case rel => exact ⟨q + 1, F, ch, rfl, by go_num, by omega, by omega, HT, HI5⟩
                    · have hqz : ¬ (q : Int) < (ms.length : Int) := by omega
                      have hTF : (F, ch) = T := by
                        have := HT.out
                        rwa [List.drop_eq_nil_of_le (by omega), nextI] at this
                      subst hTF
                      go_wp2
                      go_roundg (l.length - (i + 1))
                      case measure => omega
                      case rel => exact ⟨i + 1, F, ch, rfl, by go_num, by omega, by omega, HS, InN.need1 HI⟩
              · have hltz : ¬ (i : Int) < (l.length : Int) := by omega
                have hSF : (F, ch) = S := by
                  have := HS.out
                  rwa [List.drop_eq_nil_of_le (by rw [upto_len]; omega), cellI] at this
                subst hSF
                go_wp2
                go_roundg j
                case measure => omega
                case rel => exact ⟨ch, F, j, rfl, by omega, HPS, HN⟩
        | false =>
          have hF : F = FF := by simpa using HP.out
          subst hF
          clear HP
          have HNN : Aside0 (∀ c v, F c = some v → 0 ≤ v) := ⟨fun c v hc => by
            have h1 := List.all_eq_true.1 HA.out c ((mem_upto _ _).2 ⟨(HN.out.dom c v hc).1, (HN.out.dom c v hc).2.1⟩)
            rw [hc] at h1
            simpa using h1⟩
          have HDO := Aside0.mk HN.out.dom
          go_wp2_with (at_range; refine wpList_range_tab _ rfl _ 66 rfl intLaw Try.underlying66 Try.underlying2 (fun c v hc => (HN.out.dom c v hc).2.2) int_inj rfl HN.out.tab ?_; intro w5 ks hks hmem hrg hg5 hs5)
          try go_frame
          have HLS : Aside0 (LastS w a A0 l.length c0 p w.heap.size (w.heap.size + 1) (w.heap.size + 2) wr.heap.size F ks w5) := ⟨(BoardS.step ⟨HN.out.board⟩ ⟨hg5.os, hg5.tape, hg5.output, hg5.size, fun i hi => hg5.block i hi (by simp)⟩).out, hrg, HN.out.board.below.size⟩
          have HKS := Aside0.mk hmem
          generalize wr.heap.size = r at HLS ⊢
          clear hks hrg hg5 hs5 HN hmem
          go_loopg [17] ks.length (fun gk v17 wr2 => ∃ (todo done : List Int) (b : Int), v17 = .int .i64 b ∧ todo.length ≤ gk ∧ Aside0 (∀ z, z ∈ ks ↔ (z ∈ done ∨ z ∈ todo)) ∧ Aside0 (Least (LastV a p F done) b) ∧ Aside0 (LastS w a A0 l.length c0 p w.heap.size (w.heap.size + 1) (w.heap.size + 2) r F todo wr2))
          case atStart => exact ⟨ks, [], -1, rfl, Nat.le_refl _, ⟨by simp⟩, ⟨Or.inl ⟨rfl, fun v ⟨c, hc, _⟩ => by cases hc⟩⟩, HLS⟩
          case round =>
            clear HLS
            obtain ⟨todo, done, b, rfl, htl, HM, HB, HL2⟩ := hrel
            go_wp2_with (at_next; refine wpList_next_tab _ rfl _ rfl 66 intLaw Try.underlying66 Try.underlying2 (Try.zeroValue2 _) int_inj rfl HL2.out.rng ?_ ?_)
            · intro hdone
              subst hdone
              have hbb : b = bestI a p F (upto l.length) (-1) := by
                have h1 := bestI_least a p F HNN.out (upto l.length) [] (-1) (Or.inl ⟨rfl, fun v ⟨c, hc, _⟩ => by cases hc⟩)
                refine Least.eq (fun v => ?_) HB.out h1
                constructor
                · rintro ⟨c, hc, hf, hl⟩
                  exact ⟨c, by simpa using (mem_upto _ _).2 ⟨(HDO.out c v hf).1, (HDO.out c v hf).2.1⟩, hf, hl⟩
                · rintro ⟨c, hc, hf, hl⟩
                  refine ⟨c, ?_, hf, hl⟩
                  have := (HM.out c).1 ((HKS.out c).2 ⟨v, hf⟩)
                  simpa using this
              subst hbb
              go_wp2
              go_ret
              exact ⟨rfl, HL2.out.board.below⟩
            · intro x v w4 hq hfx hrg4 hg4 hs4 hen4
              clear hs4
              have HI := LastS.next HL2 hrg4 hg4
              have htp : 0 < todo.length := List.length_pos_of_mem hq
              have hte : (todo.erase x).length + 1 = todo.length := by rw [List.length_erase_of_mem hq]; omega
              have HM2 : Aside0 (∀ z, z ∈ ks ↔ (z ∈ done ++ [x] ∨ z ∈ todo.erase x)) := ⟨fun z => by
                rw [HM.out z, List.mem_append, List.mem_singleton]
                by_cases e : z = x
                · subst e
                  simp [hq]
                · rw [List.mem_erase_of_ne e]
                  simp [e]⟩
              have HLN := Aside0.mk (line_eq a l p x ha0)
              have hwa : wrap64 (a - 1) = a - 1 := wrap_in (by omega) (by omega)
              have HV0 := Aside0.mk (HNN.out x v hfx)
              have HB2 : Aside0 (Least (LastV a p F (done ++ [x])) (bestI a p F [x] b)) := ⟨bestI_least a p F HNN.out [x] done b HB.out⟩
              simp only [bestI, hfx] at HB2
              generalize lineI a p x = ln at HLN HB2
              clear hfx hrg4 hg4 HL2 HM HB
              by_cases hln : ln = a - 1
              · have hlb : (ln == wrap64 (a - 1)) = true := by rw [hwa]; exact beq_iff_eq.mpr hln
                by_cases hb0 : b < 0
                · rw [if_pos ⟨hln, Or.inl hb0⟩] at HB2
                  go_wp2_with fail
                  refine start_ (n := 17) (S := (fun w' => w'.cell? ⟨w.heap.size, 0, none⟩ = some (.int .i64 a) ∧ w'.cell? ⟨w.heap.size, 1, none⟩ = some (.slice A0 l.length c0) ∧ w'.cell? ⟨w.heap.size + 1, 0, none⟩ = some (.int .i64 p))) (ds := []) #[false, false, false, false, false, false, false, false, false, false, false, false, false, false, false, false, false] (by kernel_rfl) rfl rfl (LastS.sees (LastS.step HI (below_drew (Below.refl _ _)))) (fun hHeld => ?_); refine with_tabW need31_tab need31_bits (fun HT_ HW_ => ?_)
                  have HI2 := LastS.step HI (below_drew (Below.refl w4.heap.size w4))
                  generalize w4.drew = w2 at HI2 hHeld ⊢
                  refine take_ (i := 0) (N := some 107) (v := ?_) (a' := ?_) #[true, false, false, false, false, false, false, false, false, false, false, false, false, false, false, false, false] rfl rfl (take_ofW HT_.out HW_.out (by kernel_rfl)) (fun _ _ _ h => h) (Or.inl ⟨by rfl, ?_⟩) hHeld ?_ ?_
                  rotate_left
                  · rintro w' ⟨s0, s1, s2⟩
                    go_simp
                    with_reducible rfl
                  rotate_left
                  · simp only [Act.put, List.setIfInBounds_toArray, List.set_cons_zero, List.set_cons_succ, i64_w, i32_w]
                    rfl
                  refine take_ (i := 1) (N := some 108) (v := ?_) (a' := ?_) #[true, true, false, false, false, false, false, false, false, false, false, false, false, false, false, false, false] rfl rfl (take_ofW HT_.out HW_.out (by kernel_rfl)) (fun _ _ _ h => h) (Or.inl ⟨by rfl, ?_⟩) hHeld ?_ ?_
                  rotate_left
                  · rintro w' ⟨s0, s1, s2⟩
                    go_simp
                    with_reducible rfl
                  rotate_left
                  · simp only [Act.put, List.setIfInBounds_toArray, List.set_cons_zero, List.set_cons_succ, i64_w, i32_w]
                    rfl
                  refine pure_ (i := 2) (N := some 109) (v := ?_) (a' := ?_) #[true, true, true, false, false, false, false, false, false, false, false, false, false, false, false, false, false] rfl rfl (any_of HT_.out (by kernel_rfl)) (fun _ _ _ h => h) (Or.inl ⟨by rfl, ?_⟩) ?_ ?_
                  rotate_left
                  · intro w'
                    go_simp
                    with_reducible rfl
                  rotate_left
                  · simp only [Act.put, List.setIfInBounds_toArray, List.set_cons_zero, List.set_cons_succ, i64_w, i32_w]
                    rfl
                  refine pure_ (i := 4) (N := some 111) (v := ?_) (a' := ?_) #[true, true, true, false, true, false, false, false, false, false, false, false, false, false, false, false, false] rfl rfl (any_of HT_.out (by kernel_rfl)) (fun _ _ _ h => h) (Or.inl ⟨by rfl, ?_⟩) ?_ ?_
                  rotate_left
                  · intro w'
                    go_simp
                    with_reducible rfl
                  rotate_left
                  · simp only [Act.put, List.setIfInBounds_toArray, List.set_cons_zero, List.set_cons_succ, i64_w, i32_w]
                    rfl
                  refine take_ (i := 5) (N := some 112) (v := ?_) (a' := ?_) #[true, true, true, false, true, true, false, false, false, false, false, false, false, false, false, false, false] rfl rfl (take_ofW HT_.out HW_.out (by kernel_rfl)) (fun _ _ _ h => h) (Or.inl ⟨by rfl, ?_⟩) hHeld ?_ ?_
                  rotate_left
                  · rintro w' ⟨s0, s1, s2⟩
                    go_simp
                    with_reducible rfl
                  rotate_left
                  · simp only [Act.put, List.setIfInBounds_toArray, List.set_cons_zero, List.set_cons_succ, i64_w, i32_w]
                    rfl
                  refine pure_ (i := 6) (N := some 113) (v := ?_) (a' := ?_) #[true, true, true, false, true, true, true, false, false, false, false, false, false, false, false, false, false] rfl rfl (any_of HT_.out (by kernel_rfl)) (fun _ _ _ h => h) (Or.inl ⟨by rfl, ?_⟩) ?_ ?_
                  rotate_left
                  · intro w'
                    go_simp
                    with_reducible rfl
                  rotate_left
                  · simp only [Act.put, List.setIfInBounds_toArray, List.set_cons_zero, List.set_cons_succ, i64_w, i32_w]
                    rfl
                  refine one_ (i := 3) (N := some 110) #[true, true, true, true, true, true, true, false, false, false, false, false, false, false, false, false, false] rfl rfl (one_of HT_.out (by kernel_rfl)) (by decide) (fun K hK => ?_)
                  refine goes_ Try.func57 (by kernel_rfl) rfl #[.agg #[.int .i64 a, .slice A0 l.length c0], .int .i64 p, .int .i64 x] (by rfl) rfl rfl (by (try simp only [List.map_toArray, List.map_cons, List.map_nil]); first | done | rfl) ?_
                  refine (impl_Hex_line.calls a A0 c0 l p x ln _ (Kd.C_below HR.out HI2.out.board.below) hc0 HLN.out).mono ?_
                  rintro e w3 ⟨rfl, hb3⟩
                  refine ⟨_, rfl, ?_⟩
                  have HI3 := LastS.step HI2 hb3
                  clear hb3
                  refine hK.out _ _ (LastS.sees HI3) (fun hHeld => ?_)
                  clear hK K
                  refine norm_ (a' := ?_) ?_ ?_
                  rotate_left
                  · show Act.put _ (some 110) _ = _
                    simp only [Act.put, List.setIfInBounds_toArray, List.set_cons_zero, List.set_cons_succ, i64_w, i32_w]
                    rfl
                  refine pure_ (i := 7) (N := some 114) (v := ?_) (a' := ?_) #[true, true, true, true, true, true, true, true, false, false, false, false, false, false, false, false, false] rfl rfl (any_of HT_.out (by kernel_rfl)) (fun _ _ _ h => h) (Or.inl ⟨by rfl, ?_⟩) ?_ ?_
                  rotate_left
                  · intro w'
                    go_simp
                    with_reducible rfl
                  rotate_left
                  · simp only [Act.put, List.setIfInBounds_toArray, List.set_cons_zero, List.set_cons_succ, i64_w, i32_w]
                    rfl
                  refine pure_ (i := 8) (N := some 115) (v := ?_) (a' := ?_) #[true, true, true, true, true, true, true, true, true, false, false, false, false, false, false, false, false] rfl rfl (any_of HT_.out (by kernel_rfl)) (fun _ _ _ h => h) (Or.inl ⟨by rfl, ?_⟩) ?_ ?_
                  rotate_left
                  · intro w'
                    go_simp
                    with_reducible rfl
                  rotate_left
                  · simp only [Act.put, List.setIfInBounds_toArray, List.set_cons_zero, List.set_cons_succ, i64_w, i32_w]
                    rfl
                  refine pure_ (i := 9) (N := some 116) (v := ?_) (a' := ?_) #[true, true, true, true, true, true, true, true, true, true, false, false, false, false, false, false, false] rfl rfl (any_of HT_.out (by kernel_rfl)) (fun _ _ _ h => h) (Or.inl ⟨by rfl, ?_⟩) ?_ ?_
                  rotate_left
                  · intro w'
                    go_simp
                    with_reducible rfl
                  rotate_left
                  · simp only [Act.put, List.setIfInBounds_toArray, List.set_cons_zero, List.set_cons_succ, i64_w, i32_w]
                    rfl
                  refine pure_ (i := 10) (N := some 117) (v := ?_) (a' := ?_) #[true, true, true, true, true, true, true, true, true, true, true, false, false, false, false, false, false] rfl rfl (any_of HT_.out (by kernel_rfl)) (fun _ _ _ h => h) (Or.inl ⟨by rfl, ?_⟩) ?_ ?_
                  rotate_left
                  · intro w'
                    go_simp
                    with_reducible rfl
                  rotate_left
                  · simp only [Act.put, List.setIfInBounds_toArray, List.set_cons_zero, List.set_cons_succ, i64_w, i32_w]
                    rfl
                  refine pure_ (i := 11) (N := some 118) (v := ?_) (a' := ?_) #[true, true, true, true, true, true, true, true, true, true, true, true, false, false, false, false, false] rfl rfl (any_of HT_.out (by kernel_rfl)) (fun _ _ _ h => h) (Or.inl ⟨by rfl, ?_⟩) ?_ ?_
                  rotate_left
                  · intro w'
                    go_simp
                    with_reducible rfl
                  rotate_left
                  · simp only [Act.put, List.setIfInBounds_toArray, List.set_cons_zero, List.set_cons_succ, i64_w, i32_w]
                    rfl
                  refine pure_ (i := 12) (N := some 119) (v := undef) (a' := ?_) #[true, true, true, true, true, true, true, true, true, true, true, true, true, false, false, false, false] rfl rfl (any_of HT_.out (by kernel_rfl)) (fun _ _ _ h => h) (Or.inr ⟨by rfl, rfl⟩) ?_ ?_
                  rotate_left
                  · simp only [Act.put, List.setIfInBounds_toArray, List.set_cons_zero, List.set_cons_succ, i64_w, i32_w]
                    rfl
                  refine pure_ (i := 13) (N := some 120) (v := undef) (a' := ?_) #[true, true, true, true, true, true, true, true, true, true, true, true, true, true, false, false, false] rfl rfl (any_of HT_.out (by kernel_rfl)) (fun _ _ _ h => h) (Or.inr ⟨by rfl, rfl⟩) ?_ ?_
                  rotate_left
                  · simp only [Act.put, List.setIfInBounds_toArray, List.set_cons_zero, List.set_cons_succ, i64_w, i32_w]
                    rfl
                  refine pure_ (i := 14) (N := some 121) (v := undef) (a' := ?_) #[true, true, true, true, true, true, true, true, true, true, true, true, true, true, true, false, false] rfl rfl (any_of HT_.out (by kernel_rfl)) (fun _ _ _ h => h) (Or.inr ⟨by rfl, rfl⟩) ?_ ?_
                  rotate_left
                  · simp only [Act.put, List.setIfInBounds_toArray, List.set_cons_zero, List.set_cons_succ, i64_w, i32_w]
                    rfl
                  refine pure_ (i := 15) (N := some 122) (v := ?_) (a' := ?_) #[true, true, true, true, true, true, true, true, true, true, true, true, true, true, true, true, false] rfl rfl (any_of HT_.out (by kernel_rfl)) (fun _ _ _ h => h) (Or.inl ⟨by rfl, ?_⟩) ?_ ?_
                  rotate_left
                  · intro w'
                    go_simp
                    with_reducible rfl
                  rotate_left
                  · simp only [Act.put, List.setIfInBounds_toArray, List.set_cons_zero, List.set_cons_succ, i64_w, i32_w]
                    rfl
                  refine pure_ (i := 16) (N := some 123) (v := ?_) (a' := ?_) #[true, true, true, true, true, true, true, true, true, true, true, true, true, true, true, true, true] rfl rfl (any_of HT_.out (by kernel_rfl)) (fun _ _ _ h => h) (Or.inl ⟨by rfl, ?_⟩) ?_ ?_
                  rotate_left
                  · intro w'
                    go_simp
                    with_reducible rfl
                  rotate_left
                  · simp only [Act.put, List.setIfInBounds_toArray, List.set_cons_zero, List.set_cons_succ, i64_w, i32_w]
                    rfl
                  refine done_ (done_of HT_.out (by kernel_rfl)) ?_
                  go_wp2
                  go_roundg (todo.length - 1)
                  case measure => omega
                  case rel => exact ⟨todo.erase x, done ++ [x], v, rfl, by omega, HM2, HB2, HI3⟩
                · have hb1 : 0 ≤ b := by omega
                  have hbd : decide (b < 0) = false := decide_eq_false hb0
                  by_cases hvb : v < b
                  · rw [if_pos ⟨hln, Or.inr hvb⟩] at HB2
                    go_wp2_with fail
                    refine start_ (n := 17) (S := (fun w' => w'.cell? ⟨w.heap.size, 0, none⟩ = some (.int .i64 a) ∧ w'.cell? ⟨w.heap.size, 1, none⟩ = some (.slice A0 l.length c0) ∧ w'.cell? ⟨w.heap.size + 1, 0, none⟩ = some (.int .i64 p))) (ds := []) #[false, false, false, false, false, false, false, false, false, false, false, false, false, false, false, false, false] (by kernel_rfl) rfl rfl (LastS.sees (LastS.step HI (below_drew (Below.refl _ _)))) (fun hHeld => ?_); refine with_tabW need31_tab need31_bits (fun HT_ HW_ => ?_)
                    have HI2 := LastS.step HI (below_drew (Below.refl w4.heap.size w4))
                    generalize w4.drew = w2 at HI2 hHeld ⊢
                    refine take_ (i := 0) (N := some 107) (v := ?_) (a' := ?_) #[true, false, false, false, false, false, false, false, false, false, false, false, false, false, false, false, false] rfl rfl (take_ofW HT_.out HW_.out (by kernel_rfl)) (fun _ _ _ h => h) (Or.inl ⟨by rfl, ?_⟩) hHeld ?_ ?_
                    rotate_left
                    · rintro w' ⟨s0, s1, s2⟩
                      go_simp
                      with_reducible rfl
                    rotate_left
                    · simp only [Act.put, List.setIfInBounds_toArray, List.set_cons_zero, List.set_cons_succ, i64_w, i32_w]
                      rfl
                    refine take_ (i := 1) (N := some 108) (v := ?_) (a' := ?_) #[true, true, false, false, false, false, false, false, false, false, false, false, false, false, false, false, false] rfl rfl (take_ofW HT_.out HW_.out (by kernel_rfl)) (fun _ _ _ h => h) (Or.inl ⟨by rfl, ?_⟩) hHeld ?_ ?_
                    rotate_left
                    · rintro w' ⟨s0, s1, s2⟩
                      go_simp
                      with_reducible rfl
                    rotate_left
                    · simp only [Act.put, List.setIfInBounds_toArray, List.set_cons_zero, List.set_cons_succ, i64_w, i32_w]
                      rfl
                    refine pure_ (i := 2) (N := some 109) (v := ?_) (a' := ?_) #[true, true, true, false, false, false, false, false, false, false, false, false, false, false, false, false, false] rfl rfl (any_of HT_.out (by kernel_rfl)) (fun _ _ _ h => h) (Or.inl ⟨by rfl, ?_⟩) ?_ ?_
                    rotate_left
                    · intro w'
                      go_simp
                      with_reducible rfl
                    rotate_left
                    · simp only [Act.put, List.setIfInBounds_toArray, List.set_cons_zero, List.set_cons_succ, i64_w, i32_w]
                      rfl
                    refine pure_ (i := 4) (N := some 111) (v := ?_) (a' := ?_) #[true, true, true, false, true, false, false, false, false, false, false, false, false, false, false, false, false] rfl rfl (any_of HT_.out (by kernel_rfl)) (fun _ _ _ h => h) (Or.inl ⟨by rfl, ?_⟩) ?_ ?_
                    rotate_left
                    · intro w'
                      go_simp
                      with_reducible rfl
                    rotate_left
                    · simp only [Act.put, List.setIfInBounds_toArray, List.set_cons_zero, List.set_cons_succ, i64_w, i32_w]
                      rfl
                    refine take_ (i := 5) (N := some 112) (v := ?_) (a' := ?_) #[true, true, true, false, true, true, false, false, false, false, false, false, false, false, false, false, false] rfl rfl (take_ofW HT_.out HW_.out (by kernel_rfl)) (fun _ _ _ h => h) (Or.inl ⟨by rfl, ?_⟩) hHeld ?_ ?_
                    rotate_left
                    · rintro w' ⟨s0, s1, s2⟩
                      go_simp
                      with_reducible rfl
                    rotate_left
                    · simp only [Act.put, List.setIfInBounds_toArray, List.set_cons_zero, List.set_cons_succ, i64_w, i32_w]
                      rfl
                    refine pure_ (i := 6) (N := some 113) (v := ?_) (a' := ?_) #[true, true, true, false, true, true, true, false, false, false, false, false, false, false, false, false, false] rfl rfl (any_of HT_.out (by kernel_rfl)) (fun _ _ _ h => h) (Or.inl ⟨by rfl, ?_⟩) ?_ ?_
                    rotate_left
                    · intro w'
                      go_simp
                      with_reducible rfl
                    rotate_left
                    · simp only [Act.put, List.setIfInBounds_toArray, List.set_cons_zero, List.set_cons_succ, i64_w, i32_w]
                      rfl
                    refine one_ (i := 3) (N := some 110) #[true, true, true, true, true, true, true, false, false, false, false, false, false, false, false, false, false] rfl rfl (one_of HT_.out (by kernel_rfl)) (by decide) (fun K hK => ?_)
                    refine goes_ Try.func57 (by kernel_rfl) rfl #[.agg #[.int .i64 a, .slice A0 l.length c0], .int .i64 p, .int .i64 x] (by rfl) rfl rfl (by (try simp only [List.map_toArray, List.map_cons, List.map_nil]); first | done | rfl) ?_
                    refine (impl_Hex_line.calls a A0 c0 l p x ln _ (Kd.C_below HR.out HI2.out.board.below) hc0 HLN.out).mono ?_
                    rintro e w3 ⟨rfl, hb3⟩
                    refine ⟨_, rfl, ?_⟩
                    have HI3 := LastS.step HI2 hb3
                    clear hb3
                    refine hK.out _ _ (LastS.sees HI3) (fun hHeld => ?_)
                    clear hK K
                    refine norm_ (a' := ?_) ?_ ?_
                    rotate_left
                    · show Act.put _ (some 110) _ = _
                      simp only [Act.put, List.setIfInBounds_toArray, List.set_cons_zero, List.set_cons_succ, i64_w, i32_w]
                      rfl
                    refine pure_ (i := 7) (N := some 114) (v := ?_) (a' := ?_) #[true, true, true, true, true, true, true, true, false, false, false, false, false, false, false, false, false] rfl rfl (any_of HT_.out (by kernel_rfl)) (fun _ _ _ h => h) (Or.inl ⟨by rfl, ?_⟩) ?_ ?_
                    rotate_left
                    · intro w'
                      go_simp
                      with_reducible rfl
                    rotate_left
                    · simp only [Act.put, List.setIfInBounds_toArray, List.set_cons_zero, List.set_cons_succ, i64_w, i32_w]
                      rfl
                    refine pure_ (i := 8) (N := some 115) (v := ?_) (a' := ?_) #[true, true, true, true, true, true, true, true, true, false, false, false, false, false, false, false, false] rfl rfl (any_of HT_.out (by kernel_rfl)) (fun _ _ _ h => h) (Or.inl ⟨by rfl, ?_⟩) ?_ ?_
                    rotate_left
                    · intro w'
                      go_simp
                      with_reducible rfl
                    rotate_left
                    · simp only [Act.put, List.setIfInBounds_toArray, List.set_cons_zero, List.set_cons_succ, i64_w, i32_w]
                      rfl
                    refine pure_ (i := 9) (N := some 116) (v := ?_) (a' := ?_) #[true, true, true, true, true, true, true, true, true, true, false, false, false, false, false, false, false] rfl rfl (any_of HT_.out (by kernel_rfl)) (fun _ _ _ h => h) (Or.inl ⟨by rfl, ?_⟩) ?_ ?_
                    rotate_left
                    · intro w'
                      go_simp
                      with_reducible rfl
                    rotate_left
                    · simp only [Act.put, List.setIfInBounds_toArray, List.set_cons_zero, List.set_cons_succ, i64_w, i32_w]
                      rfl
                    refine pure_ (i := 10) (N := some 117) (v := ?_) (a' := ?_) #[true, true, true, true, true, true, true, true, true, true, true, false, false, false, false, false, false] rfl rfl (any_of HT_.out (by kernel_rfl)) (fun _ _ _ h => h) (Or.inl ⟨by rfl, ?_⟩) ?_ ?_
                    rotate_left
                    · intro w'
                      go_simp
                      with_reducible rfl
                    rotate_left
                    · simp only [Act.put, List.setIfInBounds_toArray, List.set_cons_zero, List.set_cons_succ, i64_w, i32_w]
                      rfl
                    refine pure_ (i := 11) (N := some 118) (v := ?_) (a' := ?_) #[true, true, true, true, true, true, true, true, true, true, true, true, false, false, false, false, false] rfl rfl (any_of HT_.out (by kernel_rfl)) (fun _ _ _ h => h) (Or.inl ⟨by rfl, ?_⟩) ?_ ?_
                    rotate_left
                    · intro w'
                      go_simp
                      with_reducible rfl
                    rotate_left
                    · simp only [Act.put, List.setIfInBounds_toArray, List.set_cons_zero, List.set_cons_succ, i64_w, i32_w]
                      rfl
                    refine pure_ (i := 12) (N := some 119) (v := ?_) (a' := ?_) #[true, true, true, true, true, true, true, true, true, true, true, true, true, false, false, false, false] rfl rfl (any_of HT_.out (by kernel_rfl)) (fun _ _ _ h => h) (Or.inl ⟨by rfl, ?_⟩) ?_ ?_
                    rotate_left
                    · intro w'
                      go_simp
                      with_reducible rfl
                    rotate_left
                    · simp only [Act.put, List.setIfInBounds_toArray, List.set_cons_zero, List.set_cons_succ, i64_w, i32_w]
                      rfl
                    refine pure_ (i := 13) (N := some 120) (v := ?_) (a' := ?_) #[true, true, true, true, true, true, true, true, true, true, true, true, true, true, false, false, false] rfl rfl (any_of HT_.out (by kernel_rfl)) (fun _ _ _ h => h) (Or.inl ⟨by rfl, ?_⟩) ?_ ?_
                    rotate_left
                    · intro w'
                      go_simp
                      with_reducible rfl
                    rotate_left
                    · simp only [Act.put, List.setIfInBounds_toArray, List.set_cons_zero, List.set_cons_succ, i64_w, i32_w]
                      rfl
                    refine pure_ (i := 14) (N := some 121) (v := ?_) (a' := ?_) #[true, true, true, true, true, true, true, true, true, true, true, true, true, true, true, false, false] rfl rfl (any_of HT_.out (by kernel_rfl)) (fun _ _ _ h => h) (Or.inl ⟨by rfl, ?_⟩) ?_ ?_
                    rotate_left
                    · intro w'
                      go_simp
                      with_reducible rfl
                    rotate_left
                    · simp only [Act.put, List.setIfInBounds_toArray, List.set_cons_zero, List.set_cons_succ, i64_w, i32_w]
                      rfl
                    refine pure_ (i := 15) (N := some 122) (v := ?_) (a' := ?_) #[true, true, true, true, true, true, true, true, true, true, true, true, true, true, true, true, false] rfl rfl (any_of HT_.out (by kernel_rfl)) (fun _ _ _ h => h) (Or.inl ⟨by rfl, ?_⟩) ?_ ?_
                    rotate_left
                    · intro w'
                      go_simp
                      with_reducible rfl
                    rotate_left
                    · simp only [Act.put, List.setIfInBounds_toArray, List.set_cons_zero, List.set_cons_succ, i64_w, i32_w]
                      rfl
                    refine pure_ (i := 16) (N := some 123) (v := ?_) (a' := ?_) #[true, true, true, true, true, true, true, true, true, true, true, true, true, true, true, true, true] rfl rfl (any_of HT_.out (by kernel_rfl)) (fun _ _ _ h => h) (Or.inl ⟨by rfl, ?_⟩) ?_ ?_
                    rotate_left
                    · intro w'
                      go_simp
                      with_reducible rfl
                    rotate_left
                    · simp only [Act.put, List.setIfInBounds_toArray, List.set_cons_zero, List.set_cons_succ, i64_w, i32_w]
                      rfl
                    refine done_ (done_of HT_.out (by kernel_rfl)) ?_
                    go_wp2
                    go_roundg (todo.length - 1)
                    case measure => omega
                    case rel => exact ⟨todo.erase x, done ++ [x], v, rfl, by omega, HM2, HB2, HI3⟩
                  · rw [if_neg (fun h => h.2.elim hb0 hvb)] at HB2
                    have hv1 : b ≤ v := by omega
                    have hvd : decide (v < b) = false := decide_eq_false hvb
                    go_wp2_with fail
                    refine start_ (n := 17) (S := (fun w' => w'.cell? ⟨w.heap.size, 0, none⟩ = some (.int .i64 a) ∧ w'.cell? ⟨w.heap.size, 1, none⟩ = some (.slice A0 l.length c0) ∧ w'.cell? ⟨w.heap.size + 1, 0, none⟩ = some (.int .i64 p))) (ds := []) #[false, false, false, false, false, false, false, false, false, false, false, false, false, false, false, false, false] (by kernel_rfl) rfl rfl (LastS.sees (LastS.step HI (below_drew (Below.refl _ _)))) (fun hHeld => ?_); refine with_tabW need31_tab need31_bits (fun HT_ HW_ => ?_)
                    have HI2 := LastS.step HI (below_drew (Below.refl w4.heap.size w4))
                    generalize w4.drew = w2 at HI2 hHeld ⊢
                    refine take_ (i := 0) (N := some 107) (v := ?_) (a' := ?_) #[true, false, false, false, false, false, false, false, false, false, false, false, false, false, false, false, false] rfl rfl (take_ofW HT_.out HW_.out (by kernel_rfl)) (fun _ _ _ h => h) (Or.inl ⟨by rfl, ?_⟩) hHeld ?_ ?_
                    rotate_left
                    · rintro w' ⟨s0, s1, s2⟩
                      go_simp
                      with_reducible rfl
                    rotate_left
                    · simp only [Act.put, List.setIfInBounds_toArray, List.set_cons_zero, List.set_cons_succ, i64_w, i32_w]
                      rfl
                    refine take_ (i := 1) (N := some 108) (v := ?_) (a' := ?_) #[true, true, false, false, false, false, false, false, false, false, false, false, false, false, false, false, false] rfl rfl (take_ofW HT_.out HW_.out (by kernel_rfl)) (fun _ _ _ h => h) (Or.inl ⟨by rfl, ?_⟩) hHeld ?_ ?_
                    rotate_left
                    · rintro w' ⟨s0, s1, s2⟩
                      go_simp
                      with_reducible rfl
                    rotate_left
                    · simp only [Act.put, List.setIfInBounds_toArray, List.set_cons_zero, List.set_cons_succ, i64_w, i32_w]
                      rfl
                    refine pure_ (i := 2) (N := some 109) (v := ?_) (a' := ?_) #[true, true, true, false, false, false, false, false, false, false, false, false, false, false, false, false, false] rfl rfl (any_of HT_.out (by kernel_rfl)) (fun _ _ _ h => h) (Or.inl ⟨by rfl, ?_⟩) ?_ ?_
                    rotate_left
                    · intro w'
                      go_simp
                      with_reducible rfl
                    rotate_left
                    · simp only [Act.put, List.setIfInBounds_toArray, List.set_cons_zero, List.set_cons_succ, i64_w, i32_w]
                      rfl
                    refine pure_ (i := 4) (N := some 111) (v := ?_) (a' := ?_) #[true, true, true, false, true, false, false, false, false, false, false, false, false, false, false, false, false] rfl rfl (any_of HT_.out (by kernel_rfl)) (fun _ _ _ h => h) (Or.inl ⟨by rfl, ?_⟩) ?_ ?_
                    rotate_left
                    · intro w'
                      go_simp
                      with_reducible rfl
                    rotate_left
                    · simp only [Act.put, List.setIfInBounds_toArray, List.set_cons_zero, List.set_cons_succ, i64_w, i32_w]
                      rfl
                    refine take_ (i := 5) (N := some 112) (v := ?_) (a' := ?_) #[true, true, true, false, true, true, false, false, false, false, false, false, false, false, false, false, false] rfl rfl (take_ofW HT_.out HW_.out (by kernel_rfl)) (fun _ _ _ h => h) (Or.inl ⟨by rfl, ?_⟩) hHeld ?_ ?_
                    rotate_left
                    · rintro w' ⟨s0, s1, s2⟩
                      go_simp
                      with_reducible rfl
                    rotate_left
                    · simp only [Act.put, List.setIfInBounds_toArray, List.set_cons_zero, List.set_cons_succ, i64_w, i32_w]
                      rfl
                    refine pure_ (i := 6) (N := some 113) (v := ?_) (a' := ?_) #[true, true, true, false, true, true, true, false, false, false, false, false, false, false, false, false, false] rfl rfl (any_of HT_.out (by kernel_rfl)) (fun _ _ _ h => h) (Or.inl ⟨by rfl, ?_⟩) ?_ ?_
                    rotate_left
                    · intro w'
                      go_simp
                      with_reducible rfl
                    rotate_left
                    · simp only [Act.put, List.setIfInBounds_toArray, List.set_cons_zero, List.set_cons_succ, i64_w, i32_w]
                      rfl
                    refine one_ (i := 3) (N := some 110) #[true, true, true, true, true, true, true, false, false, false, false, false, false, false, false, false, false] rfl rfl (one_of HT_.out (by kernel_rfl)) (by decide) (fun K hK => ?_)
                    refine goes_ Try.func57 (by kernel_rfl) rfl #[.agg #[.int .i64 a, .slice A0 l.length c0], .int .i64 p, .int .i64 x] (by rfl) rfl rfl (by (try simp only [List.map_toArray, List.map_cons, List.map_nil]); first | done | rfl) ?_
                    refine (impl_Hex_line.calls a A0 c0 l p x ln _ (Kd.C_below HR.out HI2.out.board.below) hc0 HLN.out).mono ?_
                    rintro e w3 ⟨rfl, hb3⟩
                    refine ⟨_, rfl, ?_⟩
                    have HI3 := LastS.step HI2 hb3
                    clear hb3
                    refine hK.out _ _ (LastS.sees HI3) (fun hHeld => ?_)
                    clear hK K
                    refine norm_ (a' := ?_) ?_ ?_
                    rotate_left
                    · show Act.put _ (some 110) _ = _
                      simp only [Act.put, List.setIfInBounds_toArray, List.set_cons_zero, List.set_cons_succ, i64_w, i32_w]
                      rfl
                    refine pure_ (i := 7) (N := some 114) (v := ?_) (a' := ?_) #[true, true, true, true, true, true, true, true, false, false, false, false, false, false, false, false, false] rfl rfl (any_of HT_.out (by kernel_rfl)) (fun _ _ _ h => h) (Or.inl ⟨by rfl, ?_⟩) ?_ ?_
                    rotate_left
                    · intro w'
                      go_simp
                      with_reducible rfl
                    rotate_left
                    · simp only [Act.put, List.setIfInBounds_toArray, List.set_cons_zero, List.set_cons_succ, i64_w, i32_w]
                      rfl
                    refine pure_ (i := 8) (N := some 115) (v := ?_) (a' := ?_) #[true, true, true, true, true, true, true, true, true, false, false, false, false, false, false, false, false] rfl rfl (any_of HT_.out (by kernel_rfl)) (fun _ _ _ h => h) (Or.inl ⟨by rfl, ?_⟩) ?_ ?_
                    rotate_left
                    · intro w'
                      go_simp
                      with_reducible rfl
                    rotate_left
                    · simp only [Act.put, List.setIfInBounds_toArray, List.set_cons_zero, List.set_cons_succ, i64_w, i32_w]
                      rfl
                    refine pure_ (i := 9) (N := some 116) (v := ?_) (a' := ?_) #[true, true, true, true, true, true, true, true, true, true, false, false, false, false, false, false, false] rfl rfl (any_of HT_.out (by kernel_rfl)) (fun _ _ _ h => h) (Or.inl ⟨by rfl, ?_⟩) ?_ ?_
                    rotate_left
                    · intro w'
                      go_simp
                      with_reducible rfl
                    rotate_left
                    · simp only [Act.put, List.setIfInBounds_toArray, List.set_cons_zero, List.set_cons_succ, i64_w, i32_w]
                      rfl
                    refine pure_ (i := 10) (N := some 117) (v := ?_) (a' := ?_) #[true, true, true, true, true, true, true, true, true, true, true, false, false, false, false, false, false] rfl rfl (any_of HT_.out (by kernel_rfl)) (fun _ _ _ h => h) (Or.inl ⟨by rfl, ?_⟩) ?_ ?_
                    rotate_left
                    · intro w'
                      go_simp
                      with_reducible rfl
                    rotate_left
                    · simp only [Act.put, List.setIfInBounds_toArray, List.set_cons_zero, List.set_cons_succ, i64_w, i32_w]
                      rfl
                    refine pure_ (i := 11) (N := some 118) (v := ?_) (a' := ?_) #[true, true, true, true, true, true, true, true, true, true, true, true, false, false, false, false, false] rfl rfl (any_of HT_.out (by kernel_rfl)) (fun _ _ _ h => h) (Or.inl ⟨by rfl, ?_⟩) ?_ ?_
                    rotate_left
                    · intro w'
                      go_simp
                      with_reducible rfl
                    rotate_left
                    · simp only [Act.put, List.setIfInBounds_toArray, List.set_cons_zero, List.set_cons_succ, i64_w, i32_w]
                      rfl
                    refine pure_ (i := 12) (N := some 119) (v := ?_) (a' := ?_) #[true, true, true, true, true, true, true, true, true, true, true, true, true, false, false, false, false] rfl rfl (any_of HT_.out (by kernel_rfl)) (fun _ _ _ h => h) (Or.inl ⟨by rfl, ?_⟩) ?_ ?_
                    rotate_left
                    · intro w'
                      go_simp
                      with_reducible rfl
                    rotate_left
                    · simp only [Act.put, List.setIfInBounds_toArray, List.set_cons_zero, List.set_cons_succ, i64_w, i32_w]
                      rfl
                    refine pure_ (i := 13) (N := some 120) (v := ?_) (a' := ?_) #[true, true, true, true, true, true, true, true, true, true, true, true, true, true, false, false, false] rfl rfl (any_of HT_.out (by kernel_rfl)) (fun _ _ _ h => h) (Or.inl ⟨by rfl, ?_⟩) ?_ ?_
                    rotate_left
                    · intro w'
                      go_simp
                      with_reducible rfl
                    rotate_left
                    · simp only [Act.put, List.setIfInBounds_toArray, List.set_cons_zero, List.set_cons_succ, i64_w, i32_w]
                      rfl
                    refine pure_ (i := 14) (N := some 121) (v := ?_) (a' := ?_) #[true, true, true, true, true, true, true, true, true, true, true, true, true, true, true, false, false] rfl rfl (any_of HT_.out (by kernel_rfl)) (fun _ _ _ h => h) (Or.inl ⟨by rfl, ?_⟩) ?_ ?_
                    rotate_left
                    · intro w'
                      go_simp
                      with_reducible rfl
                    rotate_left
                    · simp only [Act.put, List.setIfInBounds_toArray, List.set_cons_zero, List.set_cons_succ, i64_w, i32_w]
                      rfl
                    refine pure_ (i := 15) (N := some 122) (v := ?_) (a' := ?_) #[true, true, true, true, true, true, true, true, true, true, true, true, true, true, true, true, false] rfl rfl (any_of HT_.out (by kernel_rfl)) (fun _ _ _ h => h) (Or.inl ⟨by rfl, ?_⟩) ?_ ?_
                    rotate_left
                    · intro w'
                      go_simp
                      with_reducible rfl
                    rotate_left
                    · simp only [Act.put, List.setIfInBounds_toArray, List.set_cons_zero, List.set_cons_succ, i64_w, i32_w]
                      rfl
                    refine pure_ (i := 16) (N := some 123) (v := ?_) (a' := ?_) #[true, true, true, true, true, true, true, true, true, true, true, true, true, true, true, true, true] rfl rfl (any_of HT_.out (by kernel_rfl)) (fun _ _ _ h => h) (Or.inl ⟨by rfl, ?_⟩) ?_ ?_
                    rotate_left
                    · intro w'
                      go_simp
                      with_reducible rfl
                    rotate_left
                    · simp only [Act.put, List.setIfInBounds_toArray, List.set_cons_zero, List.set_cons_succ, i64_w, i32_w]
                      rfl
                    refine done_ (done_of HT_.out (by kernel_rfl)) ?_
                    go_wp2
                    go_roundg (todo.length - 1)
                    case measure => omega
                    case rel => exact ⟨todo.erase x, done ++ [x], b, rfl, by omega, HM2, HB2, HI3⟩
              · have hlb : (ln == wrap64 (a - 1)) = false := by rw [hwa]; exact beq_eq_false_iff_ne.mpr hln
                have hlc : (ln == a - 1) = false := beq_eq_false_iff_ne.mpr hln
                clear hwa
                rw [if_neg (fun h => hln h.1)] at HB2
                go_wp2_with fail
                refine start_ (n := 17) (S := (fun w' => w'.cell? ⟨w.heap.size, 0, none⟩ = some (.int .i64 a) ∧ w'.cell? ⟨w.heap.size, 1, none⟩ = some (.slice A0 l.length c0) ∧ w'.cell? ⟨w.heap.size + 1, 0, none⟩ = some (.int .i64 p))) (ds := []) #[false, false, false, false, false, false, false, false, false, false, false, false, false, false, false, false, false] (by kernel_rfl) rfl rfl (LastS.sees (LastS.step HI (below_drew (Below.refl _ _)))) (fun hHeld => ?_); refine with_tabW need31_tab need31_bits (fun HT_ HW_ => ?_)
                have HI2 := LastS.step HI (below_drew (Below.refl w4.heap.size w4))
                generalize w4.drew = w2 at HI2 hHeld ⊢
                refine take_ (i := 0) (N := some 107) (v := ?_) (a' := ?_) #[true, false, false, false, false, false, false, false, false, false, false, false, false, false, false, false, false] rfl rfl (take_ofW HT_.out HW_.out (by kernel_rfl)) (fun _ _ _ h => h) (Or.inl ⟨by rfl, ?_⟩) hHeld ?_ ?_
                rotate_left
                · rintro w' ⟨s0, s1, s2⟩
                  go_simp
                  with_reducible rfl
                rotate_left
                · simp only [Act.put, List.setIfInBounds_toArray, List.set_cons_zero, List.set_cons_succ, i64_w, i32_w]
                  rfl
                refine take_ (i := 1) (N := some 108) (v := ?_) (a' := ?_) #[true, true, false, false, false, false, false, false, false, false, false, false, false, false, false, false, false] rfl rfl (take_ofW HT_.out HW_.out (by kernel_rfl)) (fun _ _ _ h => h) (Or.inl ⟨by rfl, ?_⟩) hHeld ?_ ?_
                rotate_left
                · rintro w' ⟨s0, s1, s2⟩
                  go_simp
                  with_reducible rfl
                rotate_left
                · simp only [Act.put, List.setIfInBounds_toArray, List.set_cons_zero, List.set_cons_succ, i64_w, i32_w]
                  rfl
                refine pure_ (i := 2) (N := some 109) (v := ?_) (a' := ?_) #[true, true, true, false, false, false, false, false, false, false, false, false, false, false, false, false, false] rfl rfl (any_of HT_.out (by kernel_rfl)) (fun _ _ _ h => h) (Or.inl ⟨by rfl, ?_⟩) ?_ ?_
                rotate_left
                · intro w'
                  go_simp
                  with_reducible rfl
                rotate_left
                · simp only [Act.put, List.setIfInBounds_toArray, List.set_cons_zero, List.set_cons_succ, i64_w, i32_w]
                  rfl
                refine pure_ (i := 4) (N := some 111) (v := ?_) (a' := ?_) #[true, true, true, false, true, false, false, false, false, false, false, false, false, false, false, false, false] rfl rfl (any_of HT_.out (by kernel_rfl)) (fun _ _ _ h => h) (Or.inl ⟨by rfl, ?_⟩) ?_ ?_
                rotate_left
                · intro w'
                  go_simp
                  with_reducible rfl
                rotate_left
                · simp only [Act.put, List.setIfInBounds_toArray, List.set_cons_zero, List.set_cons_succ, i64_w, i32_w]
                  rfl
                refine take_ (i := 5) (N := some 112) (v := ?_) (a' := ?_) #[true, true, true, false, true, true, false, false, false, false, false, false, false, false, false, false, false] rfl rfl (take_ofW HT_.out HW_.out (by kernel_rfl)) (fun _ _ _ h => h) (Or.inl ⟨by rfl, ?_⟩) hHeld ?_ ?_
                rotate_left
                · rintro w' ⟨s0, s1, s2⟩
                  go_simp
                  with_reducible rfl
                rotate_left
                · simp only [Act.put, List.setIfInBounds_toArray, List.set_cons_zero, List.set_cons_succ, i64_w, i32_w]
                  rfl
                refine pure_ (i := 6) (N := some 113) (v := ?_) (a' := ?_) #[true, true, true, false, true, true, true, false, false, false, false, false, false, false, false, false, false] rfl rfl (any_of HT_.out (by kernel_rfl)) (fun _ _ _ h => h) (Or.inl ⟨by rfl, ?_⟩) ?_ ?_
                rotate_left
                · intro w'
                  go_simp
                  with_reducible rfl
                rotate_left
                · simp only [Act.put, List.setIfInBounds_toArray, List.set_cons_zero, List.set_cons_succ, i64_w, i32_w]
                  rfl
                refine one_ (i := 3) (N := some 110) #[true, true, true, true, true, true, true, false, false, false, false, false, false, false, false, false, false] rfl rfl (one_of HT_.out (by kernel_rfl)) (by decide) (fun K hK => ?_)
                refine goes_ Try.func57 (by kernel_rfl) rfl #[.agg #[.int .i64 a, .slice A0 l.length c0], .int .i64 p, .int .i64 x] (by rfl) rfl rfl (by (try simp only [List.map_toArray, List.map_cons, List.map_nil]); first | done | rfl) ?_
                refine (impl_Hex_line.calls a A0 c0 l p x ln _ (Kd.C_below HR.out HI2.out.board.below) hc0 HLN.out).mono ?_
                rintro e w3 ⟨rfl, hb3⟩
                refine ⟨_, rfl, ?_⟩
                have HI3 := LastS.step HI2 hb3
                clear hb3
                refine hK.out _ _ (LastS.sees HI3) (fun hHeld => ?_)
                clear hK K
                refine norm_ (a' := ?_) ?_ ?_
                rotate_left
                · show Act.put _ (some 110) _ = _
                  simp only [Act.put, List.setIfInBounds_toArray, List.set_cons_zero, List.set_cons_succ, i64_w, i32_w]
                  rfl
                refine pure_ (i := 7) (N := some 114) (v := ?_) (a' := ?_) #[true, true, true, true, true, true, true, true, false, false, false, false, false, false, false, false, false] rfl rfl (any_of HT_.out (by kernel_rfl)) (fun _ _ _ h => h) (Or.inl ⟨by rfl, ?_⟩) ?_ ?_
                rotate_left
                · intro w'
                  go_simp
                  with_reducible rfl
                rotate_left
                · simp only [Act.put, List.setIfInBounds_toArray, List.set_cons_zero, List.set_cons_succ, i64_w, i32_w]
                  rfl
                refine pure_ (i := 8) (N := some 115) (v := ?_) (a' := ?_) #[true, true, true, true, true, true, true, true, true, false, false, false, false, false, false, false, false] rfl rfl (any_of HT_.out (by kernel_rfl)) (fun _ _ _ h => h) (Or.inl ⟨by rfl, ?_⟩) ?_ ?_
                rotate_left
                · intro w'
                  go_simp
                  with_reducible rfl
                rotate_left
                · simp only [Act.put, List.setIfInBounds_toArray, List.set_cons_zero, List.set_cons_succ, i64_w, i32_w]
                  rfl
                refine pure_ (i := 9) (N := some 116) (v := undef) (a' := ?_) #[true, true, true, true, true, true, true, true, true, true, false, false, false, false, false, false, false] rfl rfl (any_of HT_.out (by kernel_rfl)) (fun _ _ _ h => h) (Or.inr ⟨by rfl, rfl⟩) ?_ ?_
                rotate_left
                · simp only [Act.put, List.setIfInBounds_toArray, List.set_cons_zero, List.set_cons_succ, i64_w, i32_w]
                  rfl
                refine pure_ (i := 10) (N := some 117) (v := undef) (a' := ?_) #[true, true, true, true, true, true, true, true, true, true, true, false, false, false, false, false, false] rfl rfl (any_of HT_.out (by kernel_rfl)) (fun _ _ _ h => h) (Or.inr ⟨by rfl, rfl⟩) ?_ ?_
                rotate_left
                · simp only [Act.put, List.setIfInBounds_toArray, List.set_cons_zero, List.set_cons_succ, i64_w, i32_w]
                  rfl
                refine pure_ (i := 11) (N := some 118) (v := undef) (a' := ?_) #[true, true, true, true, true, true, true, true, true, true, true, true, false, false, false, false, false] rfl rfl (any_of HT_.out (by kernel_rfl)) (fun _ _ _ h => h) (Or.inr ⟨by rfl, rfl⟩) ?_ ?_
                rotate_left
                · simp only [Act.put, List.setIfInBounds_toArray, List.set_cons_zero, List.set_cons_succ, i64_w, i32_w]
                  rfl
                refine pure_ (i := 12) (N := some 119) (v := undef) (a' := ?_) #[true, true, true, true, true, true, true, true, true, true, true, true, true, false, false, false, false] rfl rfl (any_of HT_.out (by kernel_rfl)) (fun _ _ _ h => h) (Or.inr ⟨by rfl, rfl⟩) ?_ ?_
                rotate_left
                · simp only [Act.put, List.setIfInBounds_toArray, List.set_cons_zero, List.set_cons_succ, i64_w, i32_w]
                  rfl
                refine pure_ (i := 13) (N := some 120) (v := undef) (a' := ?_) #[true, true, true, true, true, true, true, true, true, true, true, true, true, true, false, false, false] rfl rfl (any_of HT_.out (by kernel_rfl)) (fun _ _ _ h => h) (Or.inr ⟨by rfl, rfl⟩) ?_ ?_
                rotate_left
                · simp only [Act.put, List.setIfInBounds_toArray, List.set_cons_zero, List.set_cons_succ, i64_w, i32_w]
                  rfl
                refine pure_ (i := 14) (N := some 121) (v := undef) (a' := ?_) #[true, true, true, true, true, true, true, true, true, true, true, true, true, true, true, false, false] rfl rfl (any_of HT_.out (by kernel_rfl)) (fun _ _ _ h => h) (Or.inr ⟨by rfl, rfl⟩) ?_ ?_
                rotate_left
                · simp only [Act.put, List.setIfInBounds_toArray, List.set_cons_zero, List.set_cons_succ, i64_w, i32_w]
                  rfl
                refine pure_ (i := 15) (N := some 122) (v := undef) (a' := ?_) #[true, true, true, true, true, true, true, true, true, true, true, true, true, true, true, true, false] rfl rfl (any_of HT_.out (by kernel_rfl)) (fun _ _ _ h => h) (Or.inr ⟨by rfl, rfl⟩) ?_ ?_
                rotate_left
                · simp only [Act.put, List.setIfInBounds_toArray, List.set_cons_zero, List.set_cons_succ, i64_w, i32_w]
                  rfl
                refine pure_ (i := 16) (N := some 123) (v := ?_) (a' := ?_) #[true, true, true, true, true, true, true, true, true, true, true, true, true, true, true, true, true] rfl rfl (any_of HT_.out (by kernel_rfl)) (fun _ _ _ h => h) (Or.inl ⟨by rfl, ?_⟩) ?_ ?_
                rotate_left
                · intro w'
                  go_simp
                  with_reducible rfl
                rotate_left
                · simp only [Act.put, List.setIfInBounds_toArray, List.set_cons_zero, List.set_cons_succ, i64_w, i32_w]
                  rfl
                refine done_ (done_of HT_.out (by kernel_rfl)) ?_
                go_wp2
                go_roundg (todo.length - 1)
                case measure => omega
                case rel => exact ⟨todo.erase x, done ++ [x], b, rfl, by omega, HM2, HB2, HI3⟩
end Go.Proofs.Ytnecgdlhkbbpgaa.Q
