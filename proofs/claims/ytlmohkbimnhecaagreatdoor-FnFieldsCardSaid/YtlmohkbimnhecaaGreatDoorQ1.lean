-- Written by a program of this session (wip/tools/px.sh) over the seat's translation; Lean checks it.
import Derived.Test.YtlmohkbimnhecaaGreatDoorQ0
import Derived.Test.YtlmohkbimnhecaaGreatDoorSq
namespace Go.Proofs.YtlmohkbimnhecaaGreatDoor.Q
open Go.RowKit Go.Proofs.YtlmohkbimnhecaaGreatDoorW.PrintWords Go.Proofs.YtlmohkbimnhecaaGreatDoorW.PrintLast Go.Proofs.YtlmohkbimnhecaaGreatDoorW.PrintMore
attribute [local go_sem] max2_int min2_int max_two min_two max_three min_three max_four min_four   -- for this text's walks alone
set_option linter.unusedVariables false
set_option linter.unusedSimpArgs false

/-! ### laws_big: function 4 -/
def laws_big.f (l0 : List Int) : Option (Bool) := some (decide ((l0.length : Int) > 4096))
set_option maxHeartbeats 8000000 in
set_option maxRecDepth 100000 in
theorem laws_big.calls (A0 : Option Addr) (c0 : Nat) (l0 : List Int) (r : Bool) (w : World) (hr0 : Kd.C (Kd.int .u8) w A0 l0.length l0) (hc0 : l0.length ≤ c0) (h : laws_big.f l0 = some r) :
    Calls Tryz.prog 4 #[.slice A0 l0.length c0] w fun e w' => e = .returned (.bool r) ∧ Drawn0 w w' := by
  have HR0 := Aside0.mk hr0
  have HC0 := Aside0.mk hc0
  clear hr0 hc0
  have H : (some (decide ((l0.length : Int) > 4096))) = some r := h
  clear h
  obtain rfl := Option.some.inj H
  go_enter Tryz.func4, Tryz.ntmps4
  go_wp2
  go_ret
  exact ⟨zF, zD⟩

/-- A state of type 85 at block g of W; what its slices lead to came in by w0. -/
def IsS85 (w0 W : World) (g : Nat) (f0 : List Int) (f1 : Int) (f2 : Int) : Prop := ∃ A0 c0, W.heap[g]? = some (.cells #[.slice A0 f0.length c0, .int .i64 f1, .int .u64 f2] 85 (0, 0)) ∧ w0.heap.size ≤ g ∧ Kd.C (Kd.int .u8) w0 A0 f0.length f0
theorem IsS85.grown {w0 W : World} {g : Nat} {f0 : List Int} {f1 : Int} {f2 : Int} {W1 : World} {row : Option Nat} (h : IsS85 w0 W g f0 f1 f2) (hw : W.grownBy W1 row) (hne : some g ≠ row) : IsS85 w0 W1 g f0 f1 f2 := by
  obtain ⟨A0, c0, hb, hg, hr0⟩ := h
  exact ⟨A0, c0, blk_grown hb hw hne, hg, hr0⟩
theorem IsS85.kept {w0 W : World} {g : Nat} {f0 : List Int} {f1 : Int} {f2 : Int} {W1 : World} {S : Nat → Prop} (h : IsS85 w0 W g f0 f1 f2) (hk : Kept W W1 S) (hne : ¬ S g) : IsS85 w0 W1 g f0 f1 f2 := by
  obtain ⟨A0, c0, hb, hg, hr0⟩ := h
  exact ⟨A0, c0, blk_kept hb hk hne, hg, hr0⟩
theorem IsS85.below {w0 W : World} {g : Nat} {f0 : List Int} {f1 : Int} {f2 : Int} {W1 : World} (h : IsS85 w0 W g f0 f1 f2) (hw : Below W.heap.size W W1) : IsS85 w0 W1 g f0 f1 f2 := h.grown (grown_of_below hw none) (by simp)
theorem IsS85.alloc {w0 W : World} {g : Nat} {f0 : List Int} {f1 : Int} {f2 : Int} (h : IsS85 w0 W g f0 f1 f2) (o : Obj) : IsS85 w0 (W.alloc o) g f0 f1 f2 := h.below (below_alloc (Below.refl _ _) o)
theorem IsS85.drewN {w0 W : World} {g : Nat} {f0 : List Int} {f1 : Int} {f2 : Int} (h : IsS85 w0 W g f0 f1 f2) (m : Nat) : IsS85 w0 (W.drewN m) g f0 f1 f2 := h
theorem IsS85.drew {w0 W : World} {g : Nat} {f0 : List Int} {f1 : Int} {f2 : Int} (h : IsS85 w0 W g f0 f1 f2) : IsS85 w0 W.drew g f0 f1 f2 := h
theorem IsS85.at_ {w0 W : World} {g : Nat} {f0 : List Int} {f1 : Int} {f2 : Int} {w' : World} {m : Nat} (hq : W.drewN m = w') (h : IsS85 w0 W g f0 f1 f2) : IsS85 w0 w' g f0 f1 f2 := by subst hq; exact IsS85.drewN h m
theorem IsS85.apart {w0 W : World} {g : Nat} {f0 : List Int} {f1 : Int} {f2 : Int} {α : Type} {d : Kd α} {e : Nat} {base : Nat} {ok : Nat → Prop} {v : Value} {xs : List α} (h : IsS85 w0 W g f0 f1 f2) (ho : d.R e W base ok v xs) (ht : ∀ q, q ∈ e :: d.E → q ≠ 85) : d.R e W base (fun k => ok k ∧ k ≠ g) v xs := by
  obtain ⟨A0, c0, hb, hg, hr0⟩ := h
  exact Kd.R_types ho hb ht
theorem IsS85.own_ne {w0 W : World} {g : Nat} {f0 : List Int} {f1 : Int} {f2 : Int} {α : Type} {d : Kd α} {e : Nat} {base : Nat} {ok : Nat → Prop} {v : Value} {xs : List α} (h : IsS85 w0 W g f0 f1 f2) (ho : d.R e W base ok v xs) (ht : e ≠ 85) : some g ≠ v.ownBlock := by
  obtain ⟨A0, c0, hb, hg, hr0⟩ := h
  exact Kd.R_ne ho hb ht
theorem IsS85.lt {w0 W : World} {g : Nat} {f0 : List Int} {f1 : Int} {f2 : Int} (h : IsS85 w0 W g f0 f1 f2) : g < W.heap.size := by
  obtain ⟨A0, c0, hb, hg, hr0⟩ := h
  exact blk_lt hb
theorem IsS85.ge {w0 W : World} {g : Nat} {f0 : List Int} {f1 : Int} {f2 : Int} (h : IsS85 w0 W g f0 f1 f2) : w0.heap.size ≤ g := by
  obtain ⟨A0, c0, hb, hg, hr0⟩ := h
  exact hg
theorem IsS85.ne_blk {w0 W : World} {g : Nat} {f0 : List Int} {f1 : Int} {f2 : Int} {a : Nat} {cs : Array Value} {t : TypeId} {fr : Nat × Nat} (h : IsS85 w0 W g f0 f1 f2) (hb2 : W.heap[a]? = some (.cells cs t fr)) (ht : t ≠ 85) : g ≠ a := by
  obtain ⟨A0, c0, hb, hg, hr0⟩ := h
  rintro rfl
  rw [hb] at hb2
  injection hb2 with hb2
  injection hb2 with _ ht2
  exact ht ht2.symm
theorem IsS85.far {w0 W : World} {g : Nat} {f0 : List Int} {f1 : Int} {f2 : Int} {p : Addr} (h : IsS85 w0 W g f0 f1 f2) (hne : g ≠ p.block) (u : Value) : IsS85 w0 (W.setCell p u) g f0 f1 f2 := by
  obtain ⟨A0, c0, hb, hg, hr0⟩ := h
  exact ⟨A0, c0, blk_far hb hne u, hg, hr0⟩
theorem cellS85_0 {W : World} {g : Nat} {A0 : Option Addr} {c0 : Nat} {f0 : List Int} {f1 : Int} {f2 : Int} (h : W.heap[g]? = some (.cells #[.slice A0 f0.length c0, .int .i64 f1, .int .u64 f2] 85 (0, 0))) : W.cell? ⟨g, 0, none⟩ = some (.slice A0 f0.length c0) := (blk_cell h 0).trans rfl
theorem cellS85_1 {W : World} {g : Nat} {A0 : Option Addr} {c0 : Nat} {f0 : List Int} {f1 : Int} {f2 : Int} (h : W.heap[g]? = some (.cells #[.slice A0 f0.length c0, .int .i64 f1, .int .u64 f2] 85 (0, 0))) : W.cell? ⟨g, 1, none⟩ = some (.int .i64 f1) := (blk_cell h 1).trans rfl
theorem IsS85.set_1 {w0 W : World} {g : Nat} {f0 : List Int} {f1 : Int} {f2 : Int} (h : IsS85 w0 W g f0 f1 f2) (x : Int) : IsS85 w0 (W.setCell ⟨g, 1, none⟩ (.int .i64 x)) g f0 x f2 := by
  obtain ⟨A0, c0, hb, hg, hr0⟩ := h
  exact ⟨A0, c0, by simpa using blk_set hb 1 (.int .i64 x), hg, hr0⟩
theorem cellS85_2 {W : World} {g : Nat} {A0 : Option Addr} {c0 : Nat} {f0 : List Int} {f1 : Int} {f2 : Int} (h : W.heap[g]? = some (.cells #[.slice A0 f0.length c0, .int .i64 f1, .int .u64 f2] 85 (0, 0))) : W.cell? ⟨g, 2, none⟩ = some (.int .u64 f2) := (blk_cell h 2).trans rfl
theorem IsS85.set_2 {w0 W : World} {g : Nat} {f0 : List Int} {f1 : Int} {f2 : Int} (h : IsS85 w0 W g f0 f1 f2) (x : Int) : IsS85 w0 (W.setCell ⟨g, 2, none⟩ (.int .u64 x)) g f0 f1 x := by
  obtain ⟨A0, c0, hb, hg, hr0⟩ := h
  exact ⟨A0, c0, by simpa using blk_set hb 2 (.int .u64 x), hg, hr0⟩
theorem IsS85.new (w0 W : World) (A0 : Option Addr) (c0 : Nat) (f0 : List Int) (f1 : Int) (f2 : Int) (hB : Below w0.heap.size w0 W) (hr0 : Kd.C (Kd.int .u8) w0 A0 f0.length f0) : IsS85 w0 (W.alloc (.cells #[.slice A0 f0.length c0, .int .i64 f1, .int .u64 f2] 85)) W.heap.size f0 f1 f2 := ⟨A0, c0, by simpa using heap_alloc_new W _, hB.size, hr0⟩

/-! ### spec_l01From: function 31 -/
def spec_l01From.l0 : Nat → List Int → Int → List Int → Int → Int → Option (List Int × Int × Int)
  | 0, _, _, _, _, _ => none
  | k + 1, x0, x4, x102000, x102001, x102002 => if x4 < (x0.length : Int) then (if x4 < 4096 then (if 0 ≤ x4 then (spec_l01From.l0 k x0 (wrap64 (x4 + 1)) x102000 x102001 (IntKind.u64.wrap ((IntKind.u64.wrap ((IntKind.u64.wrap (x102002 * 1099511628211)) + (IntKind.u64.wrap (rd x0 x4)))) + 229))) else (none)) else (some (x102000, x102001, x102002))) else (some (x102000, x102001, x102002))
def spec_l01From.f (k : Nat) (l0 : List Int) : Option (List Int × Int × Int) := spec_l01From.l0 k l0 0 l0 0 (IntKind.u64.wrap (13881 + (IntKind.u64.wrap ((l0.length : Int)))))
def spec_l01From.T5 : Bool × List (List Nat × List Nat) := (true, [([], []), ([], []), ([1], [1]), ([2], [2]), ([3], [3]), ([4], [4]), ([], []), ([], []), ([6, 7], [6, 7]), ([8], [8]), ([9], [9]), ([5, 10], [5, 10]), ([11], [11]), ([0, 0, 1, 2, 3, 4, 5, 6, 7, 8, 9, 10, 11, 12], [0]), ([13, 0, 1, 2, 3, 4, 5, 6, 7, 8, 9, 10, 11, 12], [13]), ([14, 12, 0, 1, 2, 3, 4, 5, 6, 7, 8, 9, 10, 11, 12], [12, 14])])
def spec_l01From.B5 : List Nat := [0, 0, 2, 6, 14, 30, 0, 0, 192, 448, 960, 2046, 4094, 8191, 16383, 32767]
theorem spec_l01From.tab5 : rtab .any (opsOf Tryz.f31 5) = spec_l01From.T5 := by kernel_rfl
theorem spec_l01From.bits5 : waitsOk spec_l01From.T5.2 spec_l01From.B5 = true := by kernel_rfl
set_option maxHeartbeats 8000000 in
set_option maxRecDepth 100000 in
theorem spec_l01From.calls (k : Nat) (A0 : Option Addr) (c0 : Nat) (l0 : List Int) (r1 : List Int) (r2 : Int) (r3 : Int) (w0 w : World) (hB : Below w0.heap.size w0 w) (hr0 : Kd.C (Kd.int .u8) w0 A0 l0.length l0) (hc0 : l0.length ≤ c0) (h : spec_l01From.f k l0 = some (r1, r2, r3)) :
    Calls Tryz.prog 31 #[.slice A0 l0.length c0] w fun e w' => ∃ g_ : Nat, e = .returned (.pointer (some ⟨g_, 0, none⟩)) ∧ IsS85 w0 w' g_ r1 r2 r3 ∧ Below w0.heap.size w0 w' ∧ Below w.heap.size w w' := by
  have hu85 := Tryz.underlying85
  have HR0 := Aside0.mk hr0
  have HC0 := Aside0.mk hc0
  clear hr0 hc0
  have HBW := Aside0.mk (Below.refl w.heap.size w)
  have HW0 := Aside0.mk hB.size
  have HB := Aside0.mk hB
  clear hB
  have H : (spec_l01From.l0 k l0 0 l0 0 (IntKind.u64.wrap (13881 + (IntKind.u64.wrap ((l0.length : Int)))))) = some (r1, r2, r3) := h
  clear h
  have H' := Aside0.mk H
  clear H
  go_enter Tryz.func31, Tryz.ntmps31
  go_wp2_with (first | ((with_reducible refine gate_dst (N := 11) rfl ?_); refine zX 11 #[.slice A0 l0.length c0, .int .i64 0, .int .u64 (IntKind.u64.wrap (13881 + (IntKind.u64.wrap ((l0.length : Int)))))] 85 ?_; intro gb101 hg w2 hbox hb; refine zA5 (below_step HBW.out hb) (below_step (zH HB.out) hb) (hbox) ((zS hg (below_size (zH HBW.out)) : w.heap.size ≤ gb101)) ((Nat.le_trans HW0.out (zS hg (below_size (zH HBW.out)) : w.heap.size ≤ gb101) : w0.heap.size ≤ gb101)) ?_; clear HBW HB; intro HBW HB BK101 GW101 GE101; clear hb hbox hg))
  go_loopg [4] k (fun kq v4 w' => ∃ (x4_1 : Int) (x102002_1 : Int), v4 = .int .i64 x4_1 ∧ Aside0 (spec_l01From.l0 kq l0 x4_1 l0 0 x102002_1 = some (r1, r2, r3)) ∧ Aside0 (kq ≤ k) ∧ Aside0 (w'.heap[gb101]? = some (.cells #[(.slice A0 l0.length c0), .int .i64 0, .int .u64 x102002_1] 85 (0, 0))) ∧ Aside0 (Below w0.heap.size w0 w') ∧ Aside0 (Below w.heap.size w w'))
  case atStart => exact ⟨(0), (IntKind.u64.wrap (13881 + (IntKind.u64.wrap ((l0.length : Int))))), (zF), H', ⟨Nat.le_refl _⟩, ⟨zB BK101.out⟩, ⟨zH1 HB.out GE101.out⟩, ⟨zH1 HBW.out GW101.out⟩⟩
  case round =>
    clear H'
    try clear p2
    obtain ⟨x4_1, x102002_1, rfl, HA, HK1, BK101, HB, HBW⟩ := hrel
    cases gk with
    | zero => exact absurd HA.out (by simp [spec_l01From.l0])
    | succ k1 =>
      have H := HA.out
      clear HA
      simp only [spec_l01From.l0] at H
      by_cases c3 : x4_1 < (l0.length : Int)
      · rw [if_pos c3] at H
        have c3b0 := decide_eq_true c3
        clear c3
        by_cases c4 : x4_1 < 4096
        · rw [if_pos c4] at H
          have c4b0 := decide_eq_true c4
          clear c4
          by_cases c5 : 0 ≤ x4_1
          · rw [if_pos c5] at H
            have c5b0 := decide_eq_true c5
            clear c5
            have H' := Aside0.mk H
            clear H
            try go_wp2
            have n0_ := Aside0.mk (blk_drew BK101.out)
            have n1_ := Aside0.mk (below_drew1 HB.out)
            clear BK101
            clear HB
            have BK101 := n0_
            have HB := n1_
            replace HBW := Aside0.mk (below_drew1 HBW.out)
            clear n0_ n1_
            have p102 : 0 ≤ (x4_1 : Int) := of_decide_eq_true (by first | (with_reducible assumption) | assumption)
            have q102 : x4_1 < (l0.length : Int) := of_decide_eq_true (by first | (with_reducible assumption) | assumption)
            obtain ⟨ad102, e102, hx102_0⟩ := Kd.at_int HR0.out x4_1 p102 q102
            have hw102_0 := hx102_0
            cases e102
            replace hx102_0 := pw_cell_below HB.out hx102_0
            replace p102 := eq_true p102
            replace q102 := eq_true q102
            refine start_ (n := 16) (S := fun w' => w'.cell? ⟨gb101, 0, none⟩ = some (.slice (some ad102) l0.length c0) ∧ w'.cell? ⟨gb101, 1, none⟩ = some (.int .i64 0) ∧ w'.cell? ⟨gb101, 2, none⟩ = some (.int .u64 x102002_1) ∧ w'.cell? (ad102.add (x4_1).toNat) = some (.int .u8 (rd l0 x4_1))) (ds := [15]) #[false, false, false, false, false, false, false, false, false, false, false, false, false, false, false, false] (by kernel_rfl) rfl rfl ⟨(blk_cell BK101.out 0).trans rfl, (blk_cell BK101.out 1).trans rfl, (blk_cell BK101.out 2).trans rfl, ((HB.out.cell (World.block_lt_of_cell? _ _ hw102_0)).trans hw102_0)⟩ (fun hHeld => ?_); refine with_tabW spec_l01From.tab5 spec_l01From.bits5 (fun HT_ HW_ => ?_)
            generalize wr.drew = w6 at BK101 HB HBW hx102_0 hHeld ⊢
            refine zP HT_ 0 (some 22) rfl rfl ?_
            refine zP HT_ 1 (some 23) rfl rfl ?_
            refine zP HT_ 2 (some 24) rfl rfl ?_
            refine zP HT_ 3 (some 25) rfl rfl ?_
            refine zP HT_ 6 (some 28) rfl rfl ?_
            refine zP HT_ 7 (some 29) rfl rfl ?_
            refine zP HT_ 8 (some 30) rfl rfl ?_
            refine zT HT_ HW_ hHeld 4 (some 26) rfl rfl ?_
            refine zP HT_ 5 (some 27) rfl rfl ?_
            refine zT HT_ HW_ hHeld 9 (some 31) rfl rfl ?_
            refine zP HT_ 10 (some 32) rfl rfl ?_
            refine zP HT_ 11 (some 33) rfl rfl ?_
            refine zP HT_ 12 (some 34) rfl rfl ?_
            refine zP HT_ 13 (some 35) rfl rfl ?_
            refine zP HT_ 14 (some 36) rfl rfl ?_
            refine last_ (i := 15) (N := none) #[true, true, true, true, true, true, true, true, true, true, true, true, true, true, true, true] rfl rfl (one_of HT_.out (by kernel_rfl)) (by decide) (fun K hK => ?_)
            have hs7 : w6.cell? ⟨gb101, 2, none⟩ = some (.int .u64 x102002_1) := (blk_cell BK101.out 2).trans rfl
            have hfs7 := blk_frozen BK101.out 2
            refine skip_ (w1 := ?_) (by rfl) rfl ?_ ?_
            rotate_left
            · go_simp
              rfl
            refine hK.out _ _ ?_
            clear hK K
            refine done_ (done_of HT_.out (by kernel_rfl)) ?_
            try go_wp2
            go_roundg k1
            case measure => have := HK1.out; omega
            case rel => exact ⟨(wrap64 (x4_1 + 1)), (IntKind.u64.wrap ((IntKind.u64.wrap ((IntKind.u64.wrap (x102002_1 * 1099511628211)) + (IntKind.u64.wrap (rd l0 x4_1)))) + 229)), (zF), H', ⟨by have := HK1.out; omega⟩, ⟨zQ BK101.out⟩, ⟨zH1 HB.out GE101.out⟩, ⟨zH1 HBW.out GW101.out⟩⟩
          · rw [if_neg c5] at H
            exact absurd H (by simp)
        · rw [if_neg c4] at H
          have c4b0 := decide_eq_false c4
          clear c4
          simp only [Option.some.injEq, Prod.mk.injEq] at H
          obtain ⟨rfl, rfl, rfl⟩ := H
          go_wp2
          go_ret
          exact ⟨_, rfl, (show IsS85 w0 _ gb101 l0 0 x102002_1 from ⟨_, _, by (with_reducible repeat (first | refine blk_drewN ?_ _ | refine blk_drew ?_ | refine blk_alloc ?_ _)); exact BK101.out, GE101.out, HR0.out⟩), zH1 HB.out GE101.out, zH1 HBW.out GW101.out⟩
      · rw [if_neg c3] at H
        have c3b0 := decide_eq_false c3
        clear c3
        simp only [Option.some.injEq, Prod.mk.injEq] at H
        obtain ⟨rfl, rfl, rfl⟩ := H
        go_wp2
        go_ret
        exact ⟨_, rfl, (show IsS85 w0 _ gb101 l0 0 x102002_1 from ⟨_, _, by (with_reducible repeat (first | refine blk_drewN ?_ _ | refine blk_drew ?_ | refine blk_alloc ?_ _)); exact BK101.out, GE101.out, HR0.out⟩), zH1 HB.out GE101.out, zH1 HBW.out GW101.out⟩

/-! ### spec_l05Move: function 43 -/
def spec_l05Move.f (a0_0 : Int) (a0_1 : Int) (a0_2 : Int) (a0_3 : Int) (a1 : Int) (a2 : Int) : Option (Int × Int × Int × Int) := if a1 = 0 then (if 0 ≤ (IntKind.u64.wrap (a2)) then (some (a0_0, a0_1, Go.bits .or .i64 a0_2 (shl .i64 1 (IntKind.u64.wrap (a2))), a0_3)) else (none)) else (if 0 ≤ (IntKind.u64.wrap (a2)) then (some (a0_0, a0_1, a0_2, Go.bits .or .i64 a0_3 (shl .i64 1 (IntKind.u64.wrap (a2))))) else (none))
set_option maxHeartbeats 8000000 in
set_option maxRecDepth 100000 in
theorem spec_l05Move.calls (a0_0 : Int) (a0_1 : Int) (a0_2 : Int) (a0_3 : Int) (a1 : Int) (a2 : Int) (r1 : Int) (r2 : Int) (r3 : Int) (r4 : Int) (w : World) (h : spec_l05Move.f a0_0 a0_1 a0_2 a0_3 a1 a2 = some (r1, r2, r3, r4)) :
    Calls Tryz.prog 43 #[.agg #[.int .i64 a0_0, .int .i64 a0_1, .int .i64 a0_2, .int .i64 a0_3], .int .i64 a1, .int .i64 a2] w fun e w' => e = .returned (.agg #[.int .i64 r1, .int .i64 r2, .int .i64 r3, .int .i64 r4]) ∧ Below w.heap.size w w' := by
  have hu25 := Tryz.underlying25
  have HB := Aside0.mk (Below.refl w.heap.size w)
  have H : (if a1 = 0 then (if 0 ≤ (IntKind.u64.wrap (a2)) then (some (a0_0, a0_1, Go.bits .or .i64 a0_2 (shl .i64 1 (IntKind.u64.wrap (a2))), a0_3)) else (none)) else (if 0 ≤ (IntKind.u64.wrap (a2)) then (some (a0_0, a0_1, a0_2, Go.bits .or .i64 a0_3 (shl .i64 1 (IntKind.u64.wrap (a2))))) else (none))) = some (r1, r2, r3, r4) := h
  clear h
  by_cases c4 : a1 = 0
  · rw [if_pos c4] at H
    have c4b0 := zq1 c4
    have c4b1 := zq2 c4
    clear c4
    obtain ⟨ji5, hji5⟩ := zj (IntKind.u64.wrap (a2))
    (first | rw [hji5] at H | simp only [hji5] at H)
    by_cases c6 : 0 ≤ (ji5)
    · rw [if_pos c6] at H
      have c6b0 := eq_true c6
      have c6b1 := decide_eq_true c6
      clear c6
      obtain ⟨ji7, hji7⟩ := zj (shl .i64 1 (ji5))
      (first | rw [hji7] at H | simp only [hji7] at H)
      have hji7_ : (IntKind.i64.wrap (1 * 2 ^ min (ji5).toNat 64)) = ji7 := hji7
      have hji7z : (ji5) ≤ 64 → (IntKind.i64.wrap (1 * 2 ^ (ji5).toNat)) = ji7 := shl_small hji7
      have hji7u : (IntKind.i64.wrap (2 ^ min (ji5).toNat 64)) = ji7 := by have h_ := hji7_; rw [Int.one_mul] at h_; exact h_
      have hji7v : (ji5) ≤ 64 → (IntKind.i64.wrap (2 ^ (ji5).toNat)) = ji7 := fun hle_ => by have h_ := hji7z hle_; rw [Int.one_mul] at h_; exact h_
      have hji7y : (wrap64 (1 * 2 ^ min (ji5).toNat 64)) = ji7 := (i64_w _).symm.trans hji7_
      have hji7x : (ji5) ≤ 64 → (wrap64 (1 * 2 ^ (ji5).toNat)) = ji7 := fun h_ => (i64_w _).symm.trans (hji7z h_)
      simp only [Option.some.injEq, Prod.mk.injEq] at H
      obtain ⟨rfl, rfl, rfl, rfl⟩ := H
      go_enter Tryz.func43, Tryz.ntmps43
      go_wp2_with (first | ((with_reducible refine gate_dst (N := 3) rfl ?_); refine zX 3 #[.int .i64 a0_0, .int .i64 a0_1, .int .i64 a0_2, .int .i64 a0_3] 25 ?_; intro gb103 hg w8 hbox hb; refine zA4 (below_step (zH HB.out) hb) (hbox) ((zS hg (below_size (zH HB.out)) : w.heap.size ≤ gb103)) ((zS hg (below_size (zH HB.out)) : w.heap.size ≤ gb103)) ?_; clear HB; intro HB BK103 GW103 GE103; clear hb hbox hg) | ((with_reducible refine gate_dst (N := 6) rfl ?_); refine zX 6 #[.int .i64 0, .int .i64 0, .int .i64 0, .int .i64 0] 25 ?_; intro gb104 hg w9 hbox hb; refine zA7 (zY BK103.out hb) (below_step (zH1 HB.out GE103.out) hb) (hbox) ((zS hg (below_size (zH1 HB.out GE103.out)) : w.heap.size ≤ gb104)) ((zS hg (below_size (zH1 HB.out GE103.out)) : w.heap.size ≤ gb104)) ((zl hg (blk_lt (g := gb103) (o := .cells #[.int .i64 a0_0, .int .i64 a0_1, .int .i64 a0_2, .int .i64 a0_3] 25 (0, 0)) (zB BK103.out)) : gb103 ≠ gb104)) ((zg hg (blk_lt (g := gb103) (o := .cells #[.int .i64 a0_0, .int .i64 a0_1, .int .i64 a0_2, .int .i64 a0_3] 25 (0, 0)) (zB BK103.out)) : gb104 ≠ gb103)) ?_; clear BK103 HB; intro BK103 HB BK104 GW104 GE104 NB103_104 NB104_103; clear hb hbox hg; have hnb10 := NB103_104.out; have hnc10 := NB104_103.out; obtain ⟨hcz11_0, hcz11_1, hcz11_2, hcz11_3⟩ := zc4 BK103; obtain ⟨hfz11_0, hfz11_1, hfz11_2, hfz11_3⟩ := zf4 BK103; obtain ⟨hcz12_0, hcz12_1, hcz12_2, hcz12_3⟩ := zc4 BK104; obtain ⟨hfz12_0, hfz12_1, hfz12_2, hfz12_3⟩ := zf4 BK104))
      refine bodyPost_ret (results_cell_row rfl _ _ gb104 25 #[.int .i64 a0_0, .int .i64 a0_1, .int .i64 (Go.bits .or .i64 a0_2 (ji7)), .int .i64 a0_3] (0, 0) _ rfl (zQ1 BK104.out NB104_103.out) Tryz.underlying25 rfl (by kernel_rfl)) rfl ?_
      exact ⟨by first | rfl | (simp [errW_none, errW_some] <;> rfl) | (simp only [← hji5, ← hji7]; first | rfl | (simp [errW_none, errW_some] <;> rfl)) | (simp [*, errW_none, errW_some] <;> rfl), zH2 HB.out GE103.out GE104.out⟩
    · rw [if_neg c6] at H
      exact absurd H (by simp)
  · rw [if_neg c4] at H
    have c4b0 := zq3 c4
    have c4b1 := zq4 c4
    obtain ⟨ji13, hji13⟩ := zj (IntKind.u64.wrap (a2))
    (first | rw [hji13] at H | simp only [hji13] at H)
    by_cases c14 : 0 ≤ (ji13)
    · rw [if_pos c14] at H
      have c14b0 := eq_true c14
      have c14b1 := decide_eq_true c14
      clear c14
      obtain ⟨ji15, hji15⟩ := zj (shl .i64 1 (ji13))
      (first | rw [hji15] at H | simp only [hji15] at H)
      have hji15_ : (IntKind.i64.wrap (1 * 2 ^ min (ji13).toNat 64)) = ji15 := hji15
      have hji15z : (ji13) ≤ 64 → (IntKind.i64.wrap (1 * 2 ^ (ji13).toNat)) = ji15 := shl_small hji15
      have hji15u : (IntKind.i64.wrap (2 ^ min (ji13).toNat 64)) = ji15 := by have h_ := hji15_; rw [Int.one_mul] at h_; exact h_
      have hji15v : (ji13) ≤ 64 → (IntKind.i64.wrap (2 ^ (ji13).toNat)) = ji15 := fun hle_ => by have h_ := hji15z hle_; rw [Int.one_mul] at h_; exact h_
      have hji15y : (wrap64 (1 * 2 ^ min (ji13).toNat 64)) = ji15 := (i64_w _).symm.trans hji15_
      have hji15x : (ji13) ≤ 64 → (wrap64 (1 * 2 ^ (ji13).toNat)) = ji15 := fun h_ => (i64_w _).symm.trans (hji15z h_)
      simp only [Option.some.injEq, Prod.mk.injEq] at H
      obtain ⟨rfl, rfl, rfl, rfl⟩ := H
      go_enter Tryz.func43, Tryz.ntmps43
      go_wp2_with (first | ((with_reducible refine gate_dst (N := 3) rfl ?_); refine zX 3 #[.int .i64 a0_0, .int .i64 a0_1, .int .i64 a0_2, .int .i64 a0_3] 25 ?_; intro gb103 hg w16 hbox hb; refine zA4 (below_step (zH HB.out) hb) (hbox) ((zS hg (below_size (zH HB.out)) : w.heap.size ≤ gb103)) ((zS hg (below_size (zH HB.out)) : w.heap.size ≤ gb103)) ?_; clear HB; intro HB BK103 GW103 GE103; clear hb hbox hg) | ((with_reducible refine gate_dst (N := 6) rfl ?_); refine zX 6 #[.int .i64 0, .int .i64 0, .int .i64 0, .int .i64 0] 25 ?_; intro gb104 hg w17 hbox hb; refine zA7 (zY BK103.out hb) (below_step (zH1 HB.out GE103.out) hb) (hbox) ((zS hg (below_size (zH1 HB.out GE103.out)) : w.heap.size ≤ gb104)) ((zS hg (below_size (zH1 HB.out GE103.out)) : w.heap.size ≤ gb104)) ((zl hg (blk_lt (g := gb103) (o := .cells #[.int .i64 a0_0, .int .i64 a0_1, .int .i64 a0_2, .int .i64 a0_3] 25 (0, 0)) (zB BK103.out)) : gb103 ≠ gb104)) ((zg hg (blk_lt (g := gb103) (o := .cells #[.int .i64 a0_0, .int .i64 a0_1, .int .i64 a0_2, .int .i64 a0_3] 25 (0, 0)) (zB BK103.out)) : gb104 ≠ gb103)) ?_; clear BK103 HB; intro BK103 HB BK104 GW104 GE104 NB103_104 NB104_103; clear hb hbox hg; have hnb18 := NB103_104.out; have hnc18 := NB104_103.out; obtain ⟨hcz19_0, hcz19_1, hcz19_2, hcz19_3⟩ := zc4 BK103; obtain ⟨hfz19_0, hfz19_1, hfz19_2, hfz19_3⟩ := zf4 BK103; obtain ⟨hcz20_0, hcz20_1, hcz20_2, hcz20_3⟩ := zc4 BK104; obtain ⟨hfz20_0, hfz20_1, hfz20_2, hfz20_3⟩ := zf4 BK104))
      refine bodyPost_ret (results_cell_row rfl _ _ gb104 25 #[.int .i64 a0_0, .int .i64 a0_1, .int .i64 a0_2, .int .i64 (Go.bits .or .i64 a0_3 (ji15))] (0, 0) _ rfl (zQ1 BK104.out NB104_103.out) Tryz.underlying25 rfl (by kernel_rfl)) rfl ?_
      exact ⟨by first | rfl | (simp [errW_none, errW_some] <;> rfl) | (simp only [← hji13, ← hji15]; first | rfl | (simp [errW_none, errW_some] <;> rfl)) | (simp [*, errW_none, errW_some] <;> rfl), zH2 HB.out GE103.out GE104.out⟩
    · rw [if_neg c14] at H
      exact absurd H (by simp)

/-! ### spec_l05Joined: function 62 -/
def spec_l05Joined.f (a0_0 : Int) (a0_1 : Int) (a0_2 : Int) (a0_3 : Int) (a1 : Int) (a2 : Int) : Option (Bool) := if 0 ≤ (IntKind.u64.wrap (wrap64 ((wrap64 (Int.tdiv (wrap64 ((mx a1 a2) * (wrap64 ((mx a1 a2) - 1)))) 2)) + (mn a1 a2)))) then (some ((Go.bits .and .i64 (shr .i64 a0_1 (IntKind.u64.wrap (wrap64 ((wrap64 (Int.tdiv (wrap64 ((mx a1 a2) * (wrap64 ((mx a1 a2) - 1)))) 2)) + (mn a1 a2))))) 1) == 1)) else (none)
set_option maxHeartbeats 8000000 in
set_option maxRecDepth 100000 in
theorem spec_l05Joined.calls (a0_0 : Int) (a0_1 : Int) (a0_2 : Int) (a0_3 : Int) (a1 : Int) (a2 : Int) (r : Bool) (w : World) (h : spec_l05Joined.f a0_0 a0_1 a0_2 a0_3 a1 a2 = some r) :
    Calls Tryz.prog 62 #[.agg #[.int .i64 a0_0, .int .i64 a0_1, .int .i64 a0_2, .int .i64 a0_3], .int .i64 a1, .int .i64 a2] w fun e w' => e = .returned (.bool r) ∧ Below w.heap.size w w' := by
  have hu25 := Tryz.underlying25
  have HB := Aside0.mk (Below.refl w.heap.size w)
  have H : (if 0 ≤ (IntKind.u64.wrap (wrap64 ((wrap64 (Int.tdiv (wrap64 ((mx a1 a2) * (wrap64 ((mx a1 a2) - 1)))) 2)) + (mn a1 a2)))) then (some ((Go.bits .and .i64 (shr .i64 a0_1 (IntKind.u64.wrap (wrap64 ((wrap64 (Int.tdiv (wrap64 ((mx a1 a2) * (wrap64 ((mx a1 a2) - 1)))) 2)) + (mn a1 a2))))) 1) == 1)) else (none)) = some r := h
  clear h
  obtain ⟨ji4, hji4⟩ := zj (mn a1 a2)
  (first | rw [hji4] at H | simp only [hji4] at H)
  have hji4_ : (if a2 < a1 then a2 else a1) = ji4 := hji4
  obtain ⟨ji5, hji5⟩ := zj (mx a1 a2)
  (first | rw [hji5] at H | simp only [hji5] at H)
  have hji5_ : (if a1 < a2 then a2 else a1) = ji5 := hji5
  obtain ⟨ji6, hji6⟩ := zj (IntKind.u64.wrap (wrap64 ((wrap64 (Int.tdiv (wrap64 ((ji5) * (wrap64 ((ji5) - 1)))) 2)) + (ji4))))
  (first | rw [hji6] at H | simp only [hji6] at H)
  by_cases c7 : 0 ≤ (ji6)
  · rw [if_pos c7] at H
    have c7b0 := eq_true c7
    have c7b1 := decide_eq_true c7
    clear c7
    obtain ⟨ji8, hji8⟩ := zj (shr .i64 a0_1 (ji6))
    (first | rw [hji8] at H | simp only [hji8] at H)
    have hji8_ : (a0_1 / 2 ^ min (ji6).toNat 64) = ji8 := hji8
    have hji8z : (ji6) ≤ 64 → (a0_1 / 2 ^ (ji6).toNat) = ji8 := shr_small hji8
    obtain rfl := Option.some.inj H
    go_enter Tryz.func62, Tryz.ntmps62
    go_wp2_with (first | ((with_reducible refine gate_dst (N := 3) rfl ?_); refine zX 3 #[.int .i64 a0_0, .int .i64 a0_1, .int .i64 a0_2, .int .i64 a0_3] 25 ?_; intro gb105 hg w9 hbox hb; refine zA4 (below_step (zH HB.out) hb) (hbox) ((zS hg (below_size (zH HB.out)) : w.heap.size ≤ gb105)) ((zS hg (below_size (zH HB.out)) : w.heap.size ≤ gb105)) ?_; clear HB; intro HB BK105 GW105 GE105; clear hb hbox hg; obtain ⟨hcz10_0, hcz10_1, hcz10_2, hcz10_3⟩ := zc4 BK105; obtain ⟨hfz10_0, hfz10_1, hfz10_2, hfz10_3⟩ := zf4 BK105))
    go_ret
    exact ⟨by first | rfl | (simp [errW_none, errW_some] <;> rfl) | (simp only [← hji4, ← hji5, ← hji6, ← hji8]; first | rfl | (simp [errW_none, errW_some] <;> rfl)) | (simp [*, errW_none, errW_some] <;> rfl), zH1 HB.out GE105.out⟩
  · rw [if_neg c7] at H
    exact absurd H (by simp)

/-! ### spec_l05Fair: function 44 -/
mutual
def spec_l05Fair.l0 : Nat → Int → Int → Int → Int → Int → Int → Option (Bool)
  | 0, _, _, _, _, _, _ => none
  | k + 1, x1, x5, x107000, x107001, x107002, x107003 => if x5 < x107000 then (spec_l05Fair.l1 k x1 x5 0 x107000 x107001 x107002 x107003) else (some true)
def spec_l05Fair.l1 : Nat → Int → Int → Int → Int → Int → Int → Int → Option (Bool)
  | 0, _, _, _, _, _, _, _ => none
  | k + 1, x1, x5, x6, x107000, x107001, x107002, x107003 => if x6 < x5 then ((spec_l05Joined.f x107000 x107001 x107002 x107003 x6 x5).bind fun t107 => (if t107 = true then (if 0 ≤ (IntKind.u64.wrap (x6)) then (if 0 ≤ (IntKind.u64.wrap (x5)) then (if (wrap64 ((Go.bits .and .i64 (shr .i64 x107002 (IntKind.u64.wrap (x6))) 1) + (wrap64 (2 * (Go.bits .and .i64 (shr .i64 x107003 (IntKind.u64.wrap (x6))) 1))))) > 0 then (if (wrap64 ((Go.bits .and .i64 (shr .i64 x107002 (IntKind.u64.wrap (x5))) 1) + (wrap64 (2 * (Go.bits .and .i64 (shr .i64 x107003 (IntKind.u64.wrap (x5))) 1))))) > 0 then (if (((wrap64 ((Go.bits .and .i64 (shr .i64 x107002 (IntKind.u64.wrap (x6))) 1) + (wrap64 (2 * (Go.bits .and .i64 (shr .i64 x107003 (IntKind.u64.wrap (x6))) 1))))) == (wrap64 ((Go.bits .and .i64 (shr .i64 x107002 (IntKind.u64.wrap (x5))) 1) + (wrap64 (2 * (Go.bits .and .i64 (shr .i64 x107003 (IntKind.u64.wrap (x5))) 1)))))) == (x1 == 0)) = true then (some false) else (spec_l05Fair.l1 k x1 x5 (wrap64 (x6 + 1)) x107000 x107001 x107002 x107003)) else (spec_l05Fair.l1 k x1 x5 (wrap64 (x6 + 1)) x107000 x107001 x107002 x107003)) else (spec_l05Fair.l1 k x1 x5 (wrap64 (x6 + 1)) x107000 x107001 x107002 x107003)) else (none)) else (none)) else (spec_l05Fair.l1 k x1 x5 (wrap64 (x6 + 1)) x107000 x107001 x107002 x107003))) else (spec_l05Fair.l0 k x1 (wrap64 (x5 + 1)) x107000 x107001 x107002 x107003)
end
def spec_l05Fair.f (k : Nat) (a0_0 : Int) (a0_1 : Int) (a0_2 : Int) (a0_3 : Int) (a1 : Int) : Option (Bool) := spec_l05Fair.l0 k a1 1 a0_0 a0_1 a0_2 a0_3
set_option maxHeartbeats 8000000 in
set_option maxRecDepth 100000 in
theorem spec_l05Fair.calls (k : Nat) (a0_0 : Int) (a0_1 : Int) (a0_2 : Int) (a0_3 : Int) (a1 : Int) (r : Bool) (w : World) (h : spec_l05Fair.f k a0_0 a0_1 a0_2 a0_3 a1 = some r) :
    Calls Tryz.prog 44 #[.agg #[.int .i64 a0_0, .int .i64 a0_1, .int .i64 a0_2, .int .i64 a0_3], .int .i64 a1] w fun e w' => e = .returned (.bool r) ∧ Below w.heap.size w w' := by
  have hu25 := Tryz.underlying25
  have HB := Aside0.mk (Below.refl w.heap.size w)
  have H : (spec_l05Fair.l0 k a1 1 a0_0 a0_1 a0_2 a0_3) = some r := h
  clear h
  have H' := Aside0.mk H
  clear H
  go_enter Tryz.func44, Tryz.ntmps44
  go_wp2_with (first | ((with_reducible refine gate_dst (N := 2) rfl ?_); refine zX 2 #[.int .i64 a0_0, .int .i64 a0_1, .int .i64 a0_2, .int .i64 a0_3] 25 ?_; intro gb106 hg w3 hbox hb; refine zA4 (below_step (zH HB.out) hb) (hbox) ((zS hg (below_size (zH HB.out)) : w.heap.size ≤ gb106)) ((zS hg (below_size (zH HB.out)) : w.heap.size ≤ gb106)) ?_; clear HB; intro HB BK106 GW106 GE106; clear hb hbox hg))
  repeat (go_quiet (first | ((with_reducible refine gate_dst (N := 2) rfl ?_); refine zX 2 #[.int .i64 a0_0, .int .i64 a0_1, .int .i64 a0_2, .int .i64 a0_3] 25 ?_; intro gb106 hg w3 hbox hb; refine zA4 (below_step (zH HB.out) hb) (hbox) ((zS hg (below_size (zH HB.out)) : w.heap.size ≤ gb106)) ((zS hg (below_size (zH HB.out)) : w.heap.size ≤ gb106)) ?_; clear HB; intro HB BK106 GW106 GE106; clear hb hbox hg)); try go_wp2_with (first | ((with_reducible refine gate_dst (N := 2) rfl ?_); refine zX 2 #[.int .i64 a0_0, .int .i64 a0_1, .int .i64 a0_2, .int .i64 a0_3] 25 ?_; intro gb106 hg w3 hbox hb; refine zA4 (below_step (zH HB.out) hb) (hbox) ((zS hg (below_size (zH HB.out)) : w.heap.size ≤ gb106)) ((zS hg (below_size (zH HB.out)) : w.heap.size ≤ gb106)) ?_; clear HB; intro HB BK106 GW106 GE106; clear hb hbox hg)))
  go_loopg [5] k (fun kq v5 w' => ∃ (x5_1 : Int), v5 = .int .i64 x5_1 ∧ Aside0 (spec_l05Fair.l0 kq a1 x5_1 a0_0 a0_1 a0_2 a0_3 = some r) ∧ Aside0 (kq ≤ k) ∧ Aside0 (w'.heap[gb106]? = some (.cells #[.int .i64 a0_0, .int .i64 a0_1, .int .i64 a0_2, .int .i64 a0_3] 25 (0, 0))) ∧ Aside0 (Below w.heap.size w w'))
  case atStart => exact ⟨(1), (zF), H', ⟨Nat.le_refl _⟩, ⟨zB BK106.out⟩, ⟨zH1 HB.out GE106.out⟩⟩
  case round =>
    clear H'
    try clear p2
    obtain ⟨x5_1, rfl, HA, HK1, BK106, HB⟩ := hrel
    cases gk with
    | zero => exact absurd HA.out (by simp [spec_l05Fair.l0])
    | succ k1 =>
      have H := HA.out
      clear HA
      simp only [spec_l05Fair.l0] at H
      by_cases c4 : x5_1 < a0_0
      · rw [if_pos c4] at H
        have c4b0 := decide_eq_true c4
        clear c4
        have H' := Aside0.mk H
        clear H
        obtain ⟨hcz5_0, hcz5_1, hcz5_2, hcz5_3⟩ := zc4 BK106
        obtain ⟨hfz5_0, hfz5_1, hfz5_2, hfz5_3⟩ := zf4 BK106
        go_wp2
        repeat (go_quiet (fail); try go_wp2)
        go_loopg [6] k1 (fun kq v6 w' => ∃ (x6_2 : Int), v6 = .int .i64 x6_2 ∧ Aside0 (spec_l05Fair.l1 kq a1 x5_1 x6_2 a0_0 a0_1 a0_2 a0_3 = some r) ∧ Aside0 (kq ≤ k1) ∧ Aside0 (w'.heap[gb106]? = some (.cells #[.int .i64 a0_0, .int .i64 a0_1, .int .i64 a0_2, .int .i64 a0_3] 25 (0, 0))) ∧ Aside0 (Below w.heap.size w w'))
        case atStart => exact ⟨(0), (zF), H', ⟨Nat.le_refl _⟩, ⟨zB BK106.out⟩, ⟨zH1 HB.out GE106.out⟩⟩
        case round =>
          clear H'
          try clear p2
          try clear c4
          try clear c4b0
          try clear hcz5_0
          try clear hcz5_1
          try clear hcz5_2
          try clear hcz5_3
          try clear hfz5_0
          try clear hfz5_1
          try clear hfz5_2
          try clear hfz5_3
          try clear p2
          obtain ⟨x6_2, rfl, HA, HK2, BK106, HB⟩ := hrel
          cases gk with
          | zero => exact absurd HA.out (by simp [spec_l05Fair.l1])
          | succ k2 =>
            have H := HA.out
            clear HA
            simp only [spec_l05Fair.l1] at H
            by_cases c6 : x6_2 < x5_1
            · rw [if_pos c6] at H
              have c6b0 := decide_eq_true c6
              clear c6
              obtain ⟨t107, A7, H⟩ := zb H
              by_cases c8 : t107 = true
              · subst c8
                have H1 : (if 0 ≤ (IntKind.u64.wrap (x6_2)) then (if 0 ≤ (IntKind.u64.wrap (x5_1)) then (if (wrap64 ((Go.bits .and .i64 (shr .i64 a0_2 (IntKind.u64.wrap (x6_2))) 1) + (wrap64 (2 * (Go.bits .and .i64 (shr .i64 a0_3 (IntKind.u64.wrap (x6_2))) 1))))) > 0 then (if (wrap64 ((Go.bits .and .i64 (shr .i64 a0_2 (IntKind.u64.wrap (x5_1))) 1) + (wrap64 (2 * (Go.bits .and .i64 (shr .i64 a0_3 (IntKind.u64.wrap (x5_1))) 1))))) > 0 then (if (((wrap64 ((Go.bits .and .i64 (shr .i64 a0_2 (IntKind.u64.wrap (x6_2))) 1) + (wrap64 (2 * (Go.bits .and .i64 (shr .i64 a0_3 (IntKind.u64.wrap (x6_2))) 1))))) == (wrap64 ((Go.bits .and .i64 (shr .i64 a0_2 (IntKind.u64.wrap (x5_1))) 1) + (wrap64 (2 * (Go.bits .and .i64 (shr .i64 a0_3 (IntKind.u64.wrap (x5_1))) 1)))))) == (a1 == 0)) = true then (some false) else (spec_l05Fair.l1 k2 a1 x5_1 (wrap64 (x6_2 + 1)) a0_0 a0_1 a0_2 a0_3)) else (spec_l05Fair.l1 k2 a1 x5_1 (wrap64 (x6_2 + 1)) a0_0 a0_1 a0_2 a0_3)) else (spec_l05Fair.l1 k2 a1 x5_1 (wrap64 (x6_2 + 1)) a0_0 a0_1 a0_2 a0_3)) else (none)) else (none)) = some r := by rw [if_pos rfl] at H; exact H
                clear H
                have H := H1
                clear H1
                obtain ⟨ji9, hji9⟩ := zj (IntKind.u64.wrap (x6_2))
                (first | rw [hji9] at H | simp only [hji9] at H)
                (try rw [hji9] at A7)
                by_cases c10 : 0 ≤ (ji9)
                · rw [if_pos c10] at H
                  have c10b0 := eq_true c10
                  have c10b1 := decide_eq_true c10
                  clear c10
                  obtain ⟨ji11, hji11⟩ := zj (shr .i64 a0_2 (ji9))
                  (first | rw [hji11] at H | simp only [hji11] at H)
                  (try rw [hji11] at A7)
                  have hji11_ : (a0_2 / 2 ^ min (ji9).toNat 64) = ji11 := hji11
                  have hji11z : (ji9) ≤ 64 → (a0_2 / 2 ^ (ji9).toNat) = ji11 := shr_small hji11
                  have c12b0 := eq_true (of_decide_eq_true (by first | (with_reducible assumption) | assumption) : 0 ≤ (ji9))
                  obtain ⟨ji13, hji13⟩ := zj (shr .i64 a0_3 (ji9))
                  (first | rw [hji13] at H | simp only [hji13] at H)
                  (try rw [hji13] at A7)
                  have hji13_ : (a0_3 / 2 ^ min (ji9).toNat 64) = ji13 := hji13
                  have hji13z : (ji9) ≤ 64 → (a0_3 / 2 ^ (ji9).toNat) = ji13 := shr_small hji13
                  obtain ⟨ji14, hji14⟩ := zj (IntKind.u64.wrap (x5_1))
                  (first | rw [hji14] at H | simp only [hji14] at H)
                  (try rw [hji14] at A7)
                  by_cases c15 : 0 ≤ (ji14)
                  · rw [if_pos c15] at H
                    have c15b0 := eq_true c15
                    have c15b1 := decide_eq_true c15
                    clear c15
                    obtain ⟨ji16, hji16⟩ := zj (shr .i64 a0_2 (ji14))
                    (first | rw [hji16] at H | simp only [hji16] at H)
                    (try rw [hji16] at A7)
                    have hji16_ : (a0_2 / 2 ^ min (ji14).toNat 64) = ji16 := hji16
                    have hji16z : (ji14) ≤ 64 → (a0_2 / 2 ^ (ji14).toNat) = ji16 := shr_small hji16
                    have c17b0 := eq_true (of_decide_eq_true (by first | (with_reducible assumption) | assumption) : 0 ≤ (ji14))
                    obtain ⟨ji18, hji18⟩ := zj (shr .i64 a0_3 (ji14))
                    (first | rw [hji18] at H | simp only [hji18] at H)
                    (try rw [hji18] at A7)
                    have hji18_ : (a0_3 / 2 ^ min (ji14).toNat 64) = ji18 := hji18
                    have hji18z : (ji14) ≤ 64 → (a0_3 / 2 ^ (ji14).toNat) = ji18 := shr_small hji18
                    by_cases c19 : (wrap64 ((Go.bits .and .i64 (ji11) 1) + (wrap64 (2 * (Go.bits .and .i64 (ji13) 1))))) > 0
                    · rw [if_pos c19] at H
                      have c19b0 := decide_eq_true c19
                      clear c19
                      by_cases c20 : (wrap64 ((Go.bits .and .i64 (ji16) 1) + (wrap64 (2 * (Go.bits .and .i64 (ji18) 1))))) > 0
                      · rw [if_pos c20] at H
                        have c20b0 := decide_eq_true c20
                        clear c20
                        by_cases c21 : (((wrap64 ((Go.bits .and .i64 (ji11) 1) + (wrap64 (2 * (Go.bits .and .i64 (ji13) 1))))) == (wrap64 ((Go.bits .and .i64 (ji16) 1) + (wrap64 (2 * (Go.bits .and .i64 (ji18) 1)))))) == (a1 == 0)) = true
                        · rw [if_pos c21] at H
                          have c21b0 : (((wrap64 ((Go.bits .and .i64 (ji11) 1) + (wrap64 (2 * (Go.bits .and .i64 (ji13) 1))))) == (wrap64 ((Go.bits .and .i64 (ji16) 1) + (wrap64 (2 * (Go.bits .and .i64 (ji18) 1)))))) == (a1 == 0)) = true := c21
                          (try (have c21b1 : decide (((wrap64 ((Go.bits .and .i64 (ji11) 1) + (wrap64 (2 * (Go.bits .and .i64 (ji13) 1))))) == (wrap64 ((Go.bits .and .i64 (ji16) 1) + (wrap64 (2 * (Go.bits .and .i64 (ji18) 1)))))) = (a1 == 0)) = true := by simpa using c21))
                          (try (have c21b2 : (((wrap64 ((Go.bits .and .i64 (ji11) 1) + (wrap64 (2 * (Go.bits .and .i64 (ji13) 1))))) == (wrap64 ((Go.bits .and .i64 (ji16) 1) + (wrap64 (2 * (Go.bits .and .i64 (ji18) 1)))))) == (a1 == 0)) = true := by simpa using c21))
                          clear c21
                          obtain rfl := Option.some.inj H
                          obtain ⟨hcz22_0, hcz22_1, hcz22_2, hcz22_3⟩ := zc4 BK106
                          obtain ⟨hfz22_0, hfz22_1, hfz22_2, hfz22_3⟩ := zf4 BK106
                          go_wp2_with (first | (go_at_call 62; (with_reducible refine (spec_l05Joined.calls a0_0 a0_1 a0_2 a0_3 x6_2 x5_1 true _ A7.out).mono ?_); rintro e w23 ⟨rfl, hb⟩; refine zA2 (zY BK106.out hb) (below_step (zH1 HB.out GE106.out) hb) ?_; clear BK106 HB; intro BK106 HB; (try clear hb); (try clear hb2); (try clear hk); (try clear hi); obtain ⟨hcz24_0, hcz24_1, hcz24_2, hcz24_3⟩ := zc4 BK106; obtain ⟨hfz24_0, hfz24_1, hfz24_2, hfz24_3⟩ := zf4 BK106))
                          repeat (go_quiet (first | (go_at_call 62; (with_reducible refine (spec_l05Joined.calls a0_0 a0_1 a0_2 a0_3 x6_2 x5_1 true _ A7.out).mono ?_); rintro e w23 ⟨rfl, hb⟩; refine zA2 (zY BK106.out hb) (below_step (zH1 HB.out GE106.out) hb) ?_; clear BK106 HB; intro BK106 HB; (try clear hb); (try clear hb2); (try clear hk); (try clear hi); obtain ⟨hcz24_0, hcz24_1, hcz24_2, hcz24_3⟩ := zc4 BK106; obtain ⟨hfz24_0, hfz24_1, hfz24_2, hfz24_3⟩ := zf4 BK106)); try go_wp2_with (first | (go_at_call 62; (with_reducible refine (spec_l05Joined.calls a0_0 a0_1 a0_2 a0_3 x6_2 x5_1 true _ A7.out).mono ?_); rintro e w23 ⟨rfl, hb⟩; refine zA2 (zY BK106.out hb) (below_step (zH1 HB.out GE106.out) hb) ?_; clear BK106 HB; intro BK106 HB; (try clear hb); (try clear hb2); (try clear hk); (try clear hi); obtain ⟨hcz24_0, hcz24_1, hcz24_2, hcz24_3⟩ := zc4 BK106; obtain ⟨hfz24_0, hfz24_1, hfz24_2, hfz24_3⟩ := zf4 BK106)))
                          go_ret
                          exact ⟨by first | rfl | (simp [errW_none, errW_some] <;> rfl) | (simp only [← hji9, ← hji11, ← hji13, ← hji14, ← hji16, ← hji18]; first | rfl | (simp [errW_none, errW_some] <;> rfl)) | (simp [*, errW_none, errW_some] <;> rfl), zH1 HB.out GE106.out⟩
                        · rw [if_neg c21] at H
                          have c21b0 : (((wrap64 ((Go.bits .and .i64 (ji11) 1) + (wrap64 (2 * (Go.bits .and .i64 (ji13) 1))))) == (wrap64 ((Go.bits .and .i64 (ji16) 1) + (wrap64 (2 * (Go.bits .and .i64 (ji18) 1)))))) == (a1 == 0)) = false := by simpa using c21
                          (try (have c21b1 : decide (((wrap64 ((Go.bits .and .i64 (ji11) 1) + (wrap64 (2 * (Go.bits .and .i64 (ji13) 1))))) == (wrap64 ((Go.bits .and .i64 (ji16) 1) + (wrap64 (2 * (Go.bits .and .i64 (ji18) 1)))))) = (a1 == 0)) = false := by simpa using c21))
                          (try (have c21b2 : (((wrap64 ((Go.bits .and .i64 (ji11) 1) + (wrap64 (2 * (Go.bits .and .i64 (ji13) 1))))) == (wrap64 ((Go.bits .and .i64 (ji16) 1) + (wrap64 (2 * (Go.bits .and .i64 (ji18) 1)))))) == (a1 == 0)) = false := by simpa using c21))
                          (try (have c21b3 : ¬ (((wrap64 ((Go.bits .and .i64 (ji11) 1) + (wrap64 (2 * (Go.bits .and .i64 (ji13) 1))))) == (wrap64 ((Go.bits .and .i64 (ji16) 1) + (wrap64 (2 * (Go.bits .and .i64 (ji18) 1)))))) = (a1 == 0)) := by simpa using c21))
                          clear c21
                          have H' := Aside0.mk H
                          clear H
                          obtain ⟨hcz25_0, hcz25_1, hcz25_2, hcz25_3⟩ := zc4 BK106
                          obtain ⟨hfz25_0, hfz25_1, hfz25_2, hfz25_3⟩ := zf4 BK106
                          go_wp2_with (first | (go_at_call 62; (with_reducible refine (spec_l05Joined.calls a0_0 a0_1 a0_2 a0_3 x6_2 x5_1 true _ A7.out).mono ?_); rintro e w26 ⟨rfl, hb⟩; refine zA2 (zY BK106.out hb) (below_step (zH1 HB.out GE106.out) hb) ?_; clear BK106 HB; intro BK106 HB; (try clear hb); (try clear hb2); (try clear hk); (try clear hi); obtain ⟨hcz27_0, hcz27_1, hcz27_2, hcz27_3⟩ := zc4 BK106; obtain ⟨hfz27_0, hfz27_1, hfz27_2, hfz27_3⟩ := zf4 BK106))
                          repeat (go_quiet (first | (go_at_call 62; (with_reducible refine (spec_l05Joined.calls a0_0 a0_1 a0_2 a0_3 x6_2 x5_1 true _ A7.out).mono ?_); rintro e w26 ⟨rfl, hb⟩; refine zA2 (zY BK106.out hb) (below_step (zH1 HB.out GE106.out) hb) ?_; clear BK106 HB; intro BK106 HB; (try clear hb); (try clear hb2); (try clear hk); (try clear hi); obtain ⟨hcz27_0, hcz27_1, hcz27_2, hcz27_3⟩ := zc4 BK106; obtain ⟨hfz27_0, hfz27_1, hfz27_2, hfz27_3⟩ := zf4 BK106)); try go_wp2_with (first | (go_at_call 62; (with_reducible refine (spec_l05Joined.calls a0_0 a0_1 a0_2 a0_3 x6_2 x5_1 true _ A7.out).mono ?_); rintro e w26 ⟨rfl, hb⟩; refine zA2 (zY BK106.out hb) (below_step (zH1 HB.out GE106.out) hb) ?_; clear BK106 HB; intro BK106 HB; (try clear hb); (try clear hb2); (try clear hk); (try clear hi); obtain ⟨hcz27_0, hcz27_1, hcz27_2, hcz27_3⟩ := zc4 BK106; obtain ⟨hfz27_0, hfz27_1, hfz27_2, hfz27_3⟩ := zf4 BK106)))
                          go_roundg k2
                          case measure => have := HK1.out; have := HK2.out; omega
                          case rel => exact ⟨(wrap64 (x6_2 + 1)), (zF), H', ⟨by have := HK1.out; have := HK2.out; omega⟩, ⟨zB BK106.out⟩, ⟨zH1 HB.out GE106.out⟩⟩
                      · rw [if_neg c20] at H
                        have c20b0 := decide_eq_false c20
                        clear c20
                        have H' := Aside0.mk H
                        clear H
                        obtain ⟨hcz28_0, hcz28_1, hcz28_2, hcz28_3⟩ := zc4 BK106
                        obtain ⟨hfz28_0, hfz28_1, hfz28_2, hfz28_3⟩ := zf4 BK106
                        go_wp2_with (first | (go_at_call 62; (with_reducible refine (spec_l05Joined.calls a0_0 a0_1 a0_2 a0_3 x6_2 x5_1 true _ A7.out).mono ?_); rintro e w29 ⟨rfl, hb⟩; refine zA2 (zY BK106.out hb) (below_step (zH1 HB.out GE106.out) hb) ?_; clear BK106 HB; intro BK106 HB; (try clear hb); (try clear hb2); (try clear hk); (try clear hi); obtain ⟨hcz30_0, hcz30_1, hcz30_2, hcz30_3⟩ := zc4 BK106; obtain ⟨hfz30_0, hfz30_1, hfz30_2, hfz30_3⟩ := zf4 BK106))
                        repeat (go_quiet (first | (go_at_call 62; (with_reducible refine (spec_l05Joined.calls a0_0 a0_1 a0_2 a0_3 x6_2 x5_1 true _ A7.out).mono ?_); rintro e w29 ⟨rfl, hb⟩; refine zA2 (zY BK106.out hb) (below_step (zH1 HB.out GE106.out) hb) ?_; clear BK106 HB; intro BK106 HB; (try clear hb); (try clear hb2); (try clear hk); (try clear hi); obtain ⟨hcz30_0, hcz30_1, hcz30_2, hcz30_3⟩ := zc4 BK106; obtain ⟨hfz30_0, hfz30_1, hfz30_2, hfz30_3⟩ := zf4 BK106)); try go_wp2_with (first | (go_at_call 62; (with_reducible refine (spec_l05Joined.calls a0_0 a0_1 a0_2 a0_3 x6_2 x5_1 true _ A7.out).mono ?_); rintro e w29 ⟨rfl, hb⟩; refine zA2 (zY BK106.out hb) (below_step (zH1 HB.out GE106.out) hb) ?_; clear BK106 HB; intro BK106 HB; (try clear hb); (try clear hb2); (try clear hk); (try clear hi); obtain ⟨hcz30_0, hcz30_1, hcz30_2, hcz30_3⟩ := zc4 BK106; obtain ⟨hfz30_0, hfz30_1, hfz30_2, hfz30_3⟩ := zf4 BK106)))
                        go_roundg k2
                        case measure => have := HK1.out; have := HK2.out; omega
                        case rel => exact ⟨(wrap64 (x6_2 + 1)), (zF), H', ⟨by have := HK1.out; have := HK2.out; omega⟩, ⟨zB BK106.out⟩, ⟨zH1 HB.out GE106.out⟩⟩
                    · rw [if_neg c19] at H
                      have c19b0 := decide_eq_false c19
                      clear c19
                      have H' := Aside0.mk H
                      clear H
                      obtain ⟨hcz31_0, hcz31_1, hcz31_2, hcz31_3⟩ := zc4 BK106
                      obtain ⟨hfz31_0, hfz31_1, hfz31_2, hfz31_3⟩ := zf4 BK106
                      go_wp2_with (first | (go_at_call 62; (with_reducible refine (spec_l05Joined.calls a0_0 a0_1 a0_2 a0_3 x6_2 x5_1 true _ A7.out).mono ?_); rintro e w32 ⟨rfl, hb⟩; refine zA2 (zY BK106.out hb) (below_step (zH1 HB.out GE106.out) hb) ?_; clear BK106 HB; intro BK106 HB; (try clear hb); (try clear hb2); (try clear hk); (try clear hi); obtain ⟨hcz33_0, hcz33_1, hcz33_2, hcz33_3⟩ := zc4 BK106; obtain ⟨hfz33_0, hfz33_1, hfz33_2, hfz33_3⟩ := zf4 BK106))
                      repeat (go_quiet (first | (go_at_call 62; (with_reducible refine (spec_l05Joined.calls a0_0 a0_1 a0_2 a0_3 x6_2 x5_1 true _ A7.out).mono ?_); rintro e w32 ⟨rfl, hb⟩; refine zA2 (zY BK106.out hb) (below_step (zH1 HB.out GE106.out) hb) ?_; clear BK106 HB; intro BK106 HB; (try clear hb); (try clear hb2); (try clear hk); (try clear hi); obtain ⟨hcz33_0, hcz33_1, hcz33_2, hcz33_3⟩ := zc4 BK106; obtain ⟨hfz33_0, hfz33_1, hfz33_2, hfz33_3⟩ := zf4 BK106)); try go_wp2_with (first | (go_at_call 62; (with_reducible refine (spec_l05Joined.calls a0_0 a0_1 a0_2 a0_3 x6_2 x5_1 true _ A7.out).mono ?_); rintro e w32 ⟨rfl, hb⟩; refine zA2 (zY BK106.out hb) (below_step (zH1 HB.out GE106.out) hb) ?_; clear BK106 HB; intro BK106 HB; (try clear hb); (try clear hb2); (try clear hk); (try clear hi); obtain ⟨hcz33_0, hcz33_1, hcz33_2, hcz33_3⟩ := zc4 BK106; obtain ⟨hfz33_0, hfz33_1, hfz33_2, hfz33_3⟩ := zf4 BK106)))
                      go_roundg k2
                      case measure => have := HK1.out; have := HK2.out; omega
                      case rel => exact ⟨(wrap64 (x6_2 + 1)), (zF), H', ⟨by have := HK1.out; have := HK2.out; omega⟩, ⟨zB BK106.out⟩, ⟨zH1 HB.out GE106.out⟩⟩
                  · rw [if_neg c15] at H
                    exact absurd H (by simp)
                · rw [if_neg c10] at H
                  exact absurd H (by simp)
              · replace c8 := Bool.eq_false_iff.mpr c8
                subst c8
                have H1 : (spec_l05Fair.l1 k2 a1 x5_1 (wrap64 (x6_2 + 1)) a0_0 a0_1 a0_2 a0_3) = some r := by rw [if_neg (show ¬ (false = true) by decide)] at H; exact H
                clear H
                have H := H1
                clear H1
                have H' := Aside0.mk H
                clear H
                obtain ⟨hcz34_0, hcz34_1, hcz34_2, hcz34_3⟩ := zc4 BK106
                obtain ⟨hfz34_0, hfz34_1, hfz34_2, hfz34_3⟩ := zf4 BK106
                go_wp2_with (first | (go_at_call 62; (with_reducible refine (spec_l05Joined.calls a0_0 a0_1 a0_2 a0_3 x6_2 x5_1 false _ A7.out).mono ?_); rintro e w35 ⟨rfl, hb⟩; refine zA2 (zY BK106.out hb) (below_step (zH1 HB.out GE106.out) hb) ?_; clear BK106 HB; intro BK106 HB; (try clear hb); (try clear hb2); (try clear hk); (try clear hi)))
                repeat (go_quiet (first | (go_at_call 62; (with_reducible refine (spec_l05Joined.calls a0_0 a0_1 a0_2 a0_3 x6_2 x5_1 false _ A7.out).mono ?_); rintro e w35 ⟨rfl, hb⟩; refine zA2 (zY BK106.out hb) (below_step (zH1 HB.out GE106.out) hb) ?_; clear BK106 HB; intro BK106 HB; (try clear hb); (try clear hb2); (try clear hk); (try clear hi))); try go_wp2_with (first | (go_at_call 62; (with_reducible refine (spec_l05Joined.calls a0_0 a0_1 a0_2 a0_3 x6_2 x5_1 false _ A7.out).mono ?_); rintro e w35 ⟨rfl, hb⟩; refine zA2 (zY BK106.out hb) (below_step (zH1 HB.out GE106.out) hb) ?_; clear BK106 HB; intro BK106 HB; (try clear hb); (try clear hb2); (try clear hk); (try clear hi))))
                go_roundg k2
                case measure => have := HK1.out; have := HK2.out; omega
                case rel => exact ⟨(wrap64 (x6_2 + 1)), (zF), H', ⟨by have := HK1.out; have := HK2.out; omega⟩, ⟨zB BK106.out⟩, ⟨zH1 HB.out GE106.out⟩⟩
            · rw [if_neg c6] at H
              have c6b0 := decide_eq_false c6
              clear c6
              have H' := Aside0.mk H
              clear H
              go_wp2
              repeat (go_quiet (fail); try go_wp2)
              go_roundg k2
              case measure => have := HK1.out; have := HK2.out; omega
              case rel => exact ⟨(wrap64 (x5_1 + 1)), (zF), H', ⟨by have := HK1.out; have := HK2.out; omega⟩, ⟨zB BK106.out⟩, ⟨zH1 HB.out GE106.out⟩⟩
      · rw [if_neg c4] at H
        have c4b0 := decide_eq_false c4
        clear c4
        obtain rfl := Option.some.inj H
        obtain ⟨hcz36_0, hcz36_1, hcz36_2, hcz36_3⟩ := zc4 BK106
        obtain ⟨hfz36_0, hfz36_1, hfz36_2, hfz36_3⟩ := zf4 BK106
        go_wp2
        repeat (go_quiet (fail); try go_wp2)
        go_ret
        exact ⟨zE, zH1 HB.out GE106.out⟩

/-! ### spec_l05Points: function 45 -/
def spec_l05Points.l0 : Nat → Int → Int → List Int → Int → Int → Int → Int → Int → Option (List Int)
  | 0, _, _, _, _, _, _, _, _ => none
  | k + 1, x1, x2, x7, x8, x109000, x109001, x109002, x109003 => if x8 < x109000 then (if 0 ≤ (IntKind.u64.wrap (x8)) then (if (Go.bits .and .i64 (shr .i64 (Go.bits .or .i64 x109002 x109003) (IntKind.u64.wrap (x8))) 1) = 0 then ((spec_l05Move.f x109000 x109001 x109002 x109003 x2 x8).bind fun bt112 => ((spec_l05Fair.f k bt112.1 bt112.2.1 bt112.2.2.1 bt112.2.2.2 x1).bind fun t116 => (if t116 = true then (if x7.length < 17592186044416 then (spec_l05Points.l0 k x1 x2 (x7 ++ [x8]) (wrap64 (x8 + 1)) x109000 x109001 x109002 x109003) else (none)) else (spec_l05Points.l0 k x1 x2 x7 (wrap64 (x8 + 1)) x109000 x109001 x109002 x109003)))) else (spec_l05Points.l0 k x1 x2 x7 (wrap64 (x8 + 1)) x109000 x109001 x109002 x109003)) else (none)) else (some x7)
def spec_l05Points.f (k : Nat) (a0_0 : Int) (a0_1 : Int) (a0_2 : Int) (a0_3 : Int) (a1 : Int) (a2 : Int) : Option (List Int) := spec_l05Points.l0 k a1 a2 (([] : List Int)) 0 a0_0 a0_1 a0_2 a0_3
set_option maxHeartbeats 8000000 in
set_option maxRecDepth 100000 in
theorem spec_l05Points.calls (k : Nat) (a0_0 : Int) (a0_1 : Int) (a0_2 : Int) (a0_3 : Int) (a1 : Int) (a2 : Int) (r : List Int) (w : World) (h : spec_l05Points.f k a0_0 a0_1 a0_2 a0_3 a1 a2 = some r) :
    Calls Tryz.prog 45 #[.agg #[.int .i64 a0_0, .int .i64 a0_1, .int .i64 a0_2, .int .i64 a0_3], .int .i64 a1, .int .i64 a2] w fun e w' => ∃ v0_ : Value, e = .returned (v0_) ∧ Kd.R (Kd.int .i64) 2 w' w.heap.size (fun _ => True) v0_ r ∧ Below w.heap.size w w' := by
  have hu25 := Tryz.underlying25
  have HB := Aside0.mk (Below.refl w.heap.size w)
  have H : (spec_l05Points.l0 k a1 a2 (([] : List Int)) 0 a0_0 a0_1 a0_2 a0_3) = some r := h
  clear h
  obtain ⟨y109, hy109⟩ : ∃ y_ : List Int, y_ = (([] : List Int)) := ⟨_, rfl⟩
  replace H : (spec_l05Points.l0 k a1 a2 y109 0 a0_0 a0_1 a0_2 a0_3) = some r := by first | (rw [hy109]; with_reducible exact H) | (have H2_ := (Option.bind_some _ _).symm.trans H; rw [hy109]; with_reducible exact H2_) | (have H2_ := (Option.bind_some _ _).symm.trans H; with_reducible exact H2_) | with_reducible exact H | (rw [hy109]; exact H) | exact H
  have Ny109 := Aside0.mk hy109
  clear hy109
  have H' := Aside0.mk H
  clear H
  go_enter Tryz.func45, Tryz.ntmps45
  go_wp2_with (first | ((with_reducible refine gate_dst (N := 3) rfl ?_); refine zX 3 #[.int .i64 a0_0, .int .i64 a0_1, .int .i64 a0_2, .int .i64 a0_3] 25 ?_; intro gb108 hg w4 hbox hb; refine zA4 (below_step (zH HB.out) hb) (hbox) ((zS hg (below_size (zH HB.out)) : w.heap.size ≤ gb108)) ((zS hg (below_size (zH HB.out)) : w.heap.size ≤ gb108)) ?_; clear HB; intro HB BK108 GW108 GE108; clear hb hbox hg) | ((with_reducible refine gate_dst (N := 9) rfl ?_); refine Kd.R_lit (Kd.int .i64) _ 2 ?hg (N := 9) ?hd (xs := ([] : List Int)) (inner := []) (ok := fun _ => True) (okp := fun _ => True) ?hr ?hp (fun _ hk => hk) trivial (Below.refl _ _) (Nat.le_refl _) (by simp) ?_; (case hd => rfl); (case hg => rfl); (case hr => first | (go_simp; done) | (go_simp; rfl)); (case hp => exact (Reps.none _ _)); intro v110 w5 ho6 hb hg_ hnew_; clear hg_ hnew_; (first | rw [← Ny109.out] at ho6 | (simp only [Int.reduceToNat] at ho6; rw [← Ny109.out] at ho6)); refine zA3 (Kd.R_lower ho6 (below_size (zH1 HB.out GE108.out))) (zY BK108.out hb) (below_step (zH1 HB.out GE108.out) hb) ?_; clear BK108 HB; intro HO111 BK108 HB; clear hb ho6))
  go_loopg [7, 8] k (fun kq v7 v8 w' => ∃ (x7_1 : List Int) (x8_1 : Int), v8 = .int .i64 x8_1 ∧ Aside0 (spec_l05Points.l0 kq a1 a2 x7_1 x8_1 a0_0 a0_1 a0_2 a0_3 = some r) ∧ Aside0 (kq ≤ k) ∧ Aside0 (Kd.R (Kd.int .i64) 2 w' w.heap.size (fun _ => True) v7 x7_1) ∧ Aside0 (w'.heap[gb108]? = some (.cells #[.int .i64 a0_0, .int .i64 a0_1, .int .i64 a0_2, .int .i64 a0_3] 25 (0, 0))) ∧ Aside0 (Below w.heap.size w w'))
  case atStart => exact ⟨(y109), (0), (zF), H', ⟨Nat.le_refl _⟩, ⟨zR HO111.out⟩, ⟨zB BK108.out⟩, ⟨zH1 HB.out GE108.out⟩⟩
  case round =>
    clear H'
    try clear p2
    try clear c4
    obtain ⟨x7_1, x8_1, rfl, HA, HK1, HO_7, BK108, HB⟩ := hrel
    cases gk with
    | zero => exact absurd HA.out (by simp [spec_l05Points.l0])
    | succ k1 =>
      have H := HA.out
      clear HA
      simp only [spec_l05Points.l0] at H
      by_cases c7 : x8_1 < a0_0
      · rw [if_pos c7] at H
        have c7b0 := decide_eq_true c7
        clear c7
        obtain ⟨ji8, hji8⟩ := zj (IntKind.u64.wrap (x8_1))
        (first | rw [hji8] at H | simp only [hji8] at H)
        by_cases c9 : 0 ≤ (ji8)
        · rw [if_pos c9] at H
          have c9b0 := eq_true c9
          have c9b1 := decide_eq_true c9
          clear c9
          obtain ⟨ji10, hji10⟩ := zj (shr .i64 (Go.bits .or .i64 a0_2 a0_3) (ji8))
          (first | rw [hji10] at H | simp only [hji10] at H)
          have hji10_ : ((Go.bits .or .i64 a0_2 a0_3) / 2 ^ min (ji8).toNat 64) = ji10 := hji10
          have hji10z : (ji8) ≤ 64 → ((Go.bits .or .i64 a0_2 a0_3) / 2 ^ (ji8).toNat) = ji10 := shr_small hji10
          by_cases c11 : (Go.bits .and .i64 (ji10) 1) = 0
          · rw [if_pos c11] at H
            have c11b0 := zq1 c11
            have c11b1 := zq2 c11
            clear c11
            obtain ⟨⟨t112, t113, t114, t115⟩, A12, H⟩ := zb H; (try dsimp only at H)
            obtain ⟨t116, A13, H⟩ := zb H
            by_cases c14 : t116 = true
            · subst c14
              have H1 : (if x7_1.length < 17592186044416 then (spec_l05Points.l0 k1 a1 a2 (x7_1 ++ [x8_1]) (wrap64 (x8_1 + 1)) a0_0 a0_1 a0_2 a0_3) else (none)) = some r := by rw [if_pos rfl] at H; exact H
              clear H
              have H := H1
              clear H1
              by_cases c15 : x7_1.length < 17592186044416
              · rw [if_pos c15] at H
                have LMc15 := Aside0.mk c15
                clear c15
                obtain ⟨y117, hy117⟩ : ∃ y_ : List Int, y_ = (x7_1 ++ [x8_1]) := ⟨_, rfl⟩
                replace H : (spec_l05Points.l0 k1 a1 a2 y117 (wrap64 (x8_1 + 1)) a0_0 a0_1 a0_2 a0_3) = some r := by first | (rw [hy117]; with_reducible exact H) | (have H2_ := (Option.bind_some _ _).symm.trans H; rw [hy117]; with_reducible exact H2_) | (have H2_ := (Option.bind_some _ _).symm.trans H; with_reducible exact H2_) | with_reducible exact H | (rw [hy117]; exact H) | exact H
                have Ny117 := Aside0.mk hy117
                clear hy117
                have H' := Aside0.mk H
                clear H
                obtain ⟨hcz16_0, hcz16_1, hcz16_2, hcz16_3⟩ := zc4 BK108
                obtain ⟨hfz16_0, hfz16_1, hfz16_2, hfz16_3⟩ := zf4 BK108
                go_wp2_with (first | (go_at_call 43; (with_reducible refine (spec_l05Move.calls a0_0 a0_1 a0_2 a0_3 a2 x8_1 t112 t113 t114 t115 _ A12.out).mono ?_); rintro e w17 ⟨rfl, hb⟩; refine zA3 (Kd.R_below (zR HO_7.out) hb) (zY BK108.out hb) (below_step (zH1 HB.out GE108.out) hb) ?_; clear HO_7 BK108 HB; intro HO_7 BK108 HB; (try clear hb); (try clear hb2); (try clear hk); (try clear hi)) | (go_at_call 44; (with_reducible refine (spec_l05Fair.calls k1 t112 t113 t114 t115 a1 true _ A13.out).mono ?_); rintro e w18 ⟨rfl, hb⟩; refine zA3 (Kd.R_below (zR HO_7.out) hb) (zY BK108.out hb) (below_step (zH1 HB.out GE108.out) hb) ?_; clear HO_7 BK108 HB; intro HO_7 BK108 HB; (try clear hb); (try clear hb2); (try clear hk); (try clear hi)) | ((with_reducible refine gate_builtin (b := .append) (xs := #[.tmp 34, .tmp 36]) rfl ?_); at_builtin; refine Kd.R_append (Kd.int .i64) (w0 := w) w.heap.size rfl (.tmp 34) (.tmp 36) 30 2 (.int .i64 0) 8 rfl Tryz.underlying30 info2 rfl (by decide) (by omega) u7 x7_1 x8_1 [.int .i64 x8_1] (fun _ => True) (fun _ => False) rfl rfl ?aP (fun _ hk => hk.elim) ?aF ?aO ?aB ?aS ?aL ?_; (case aP => exact rfl); (case aB => exact (zH1 HB.out GE108.out)); (case aF => exact (fun _ _ => trivial)); (case aO => exact (zR HO_7.out)); (case aS => exact (below_size (zH1 HB.out GE108.out))); (case aL => have := LMc15.out; omega); intro v118 w19 ho hb hg hat; rw [← Ny117.out] at ho; refine zA3 (blk_grown (g := gb108) (o := .cells #[.int .i64 a0_0, .int .i64 a0_1, .int .i64 a0_2, .int .i64 a0_3] 25 (0, 0)) (zB BK108.out) hg (Kd.R_ne HO_7.out BK108.out (by decide))) (hb) (ho) ?_; clear BK108 HB HO_7; intro BK108 HB HO119; clear ho hb hg hat))
                go_roundg k1
                case measure => have := HK1.out; omega
                case rel => exact ⟨(y117), (wrap64 (x8_1 + 1)), (zF), H', ⟨by have := HK1.out; omega⟩, ⟨zR HO119.out⟩, ⟨zB BK108.out⟩, ⟨zH1 HB.out GE108.out⟩⟩
              · rw [if_neg c15] at H
                exact absurd H (by simp)
            · replace c14 := Bool.eq_false_iff.mpr c14
              subst c14
              have H1 : (spec_l05Points.l0 k1 a1 a2 x7_1 (wrap64 (x8_1 + 1)) a0_0 a0_1 a0_2 a0_3) = some r := by rw [if_neg (show ¬ (false = true) by decide)] at H; exact H
              clear H
              have H := H1
              clear H1
              have H' := Aside0.mk H
              clear H
              obtain ⟨hcz20_0, hcz20_1, hcz20_2, hcz20_3⟩ := zc4 BK108
              obtain ⟨hfz20_0, hfz20_1, hfz20_2, hfz20_3⟩ := zf4 BK108
              go_wp2_with (first | (go_at_call 43; (with_reducible refine (spec_l05Move.calls a0_0 a0_1 a0_2 a0_3 a2 x8_1 t112 t113 t114 t115 _ A12.out).mono ?_); rintro e w21 ⟨rfl, hb⟩; refine zA3 (Kd.R_below (zR HO_7.out) hb) (zY BK108.out hb) (below_step (zH1 HB.out GE108.out) hb) ?_; clear HO_7 BK108 HB; intro HO_7 BK108 HB; (try clear hb); (try clear hb2); (try clear hk); (try clear hi)) | (go_at_call 44; (with_reducible refine (spec_l05Fair.calls k1 t112 t113 t114 t115 a1 false _ A13.out).mono ?_); rintro e w22 ⟨rfl, hb⟩; refine zA3 (Kd.R_below (zR HO_7.out) hb) (zY BK108.out hb) (below_step (zH1 HB.out GE108.out) hb) ?_; clear HO_7 BK108 HB; intro HO_7 BK108 HB; (try clear hb); (try clear hb2); (try clear hk); (try clear hi)))
              go_roundg k1
              case measure => have := HK1.out; omega
              case rel => exact ⟨(x7_1), (wrap64 (x8_1 + 1)), (zF), H', ⟨by have := HK1.out; omega⟩, ⟨zR HO_7.out⟩, ⟨zB BK108.out⟩, ⟨zH1 HB.out GE108.out⟩⟩
          · rw [if_neg c11] at H
            have c11b0 := zq3 c11
            have c11b1 := zq4 c11
            have H' := Aside0.mk H
            clear H
            obtain ⟨hcz23_0, hcz23_1, hcz23_2, hcz23_3⟩ := zc4 BK108
            obtain ⟨hfz23_0, hfz23_1, hfz23_2, hfz23_3⟩ := zf4 BK108
            go_wp2
            go_roundg k1
            case measure => have := HK1.out; omega
            case rel => exact ⟨(x7_1), (wrap64 (x8_1 + 1)), (zF), H', ⟨by have := HK1.out; omega⟩, ⟨zR HO_7.out⟩, ⟨zB BK108.out⟩, ⟨zH1 HB.out GE108.out⟩⟩
        · rw [if_neg c9] at H
          exact absurd H (by simp)
      · rw [if_neg c7] at H
        have c7b0 := decide_eq_false c7
        clear c7
        obtain rfl := Option.some.inj H
        obtain ⟨hcz24_0, hcz24_1, hcz24_2, hcz24_3⟩ := zc4 BK108
        obtain ⟨hfz24_0, hfz24_1, hfz24_2, hfz24_3⟩ := zf4 BK108
        go_wp2
        go_ret
        exact ⟨_, zE, by (with_reducible repeat (first | apply Kd.R_alloc | apply Kd.R_drewN | apply Kd.R_drew)); exact HO_7.out, zH1 HB.out GE108.out⟩

/-! ### spec_l01Next: function 58 -/
def spec_l01Next.f (s0_0 : List Int) (s0_1 : Int) (s0_2 : Int) (a1 : Int) : Option (Int × Int × Int) := if a1 < 1 then (some (0, s0_1, s0_2)) else (if s0_1 < (s0_0.length : Int) then (if 0 ≤ s0_1 then (if a1 = 0 then (none) else (some (Int.tmod (wrap64 ((wrap64 (Go.bits .and .u64 ((IntKind.u64.wrap ((IntKind.u64.wrap (s0_2 * 6364136223846793005)) + 1442695040888963407)) / 8589934592) 16777215)) + (wrap64 (rd s0_0 s0_1)))) a1, wrap64 (s0_1 + 1), IntKind.u64.wrap ((IntKind.u64.wrap (s0_2 * 6364136223846793005)) + 1442695040888963407)))) else (none)) else (if a1 = 0 then (none) else (some (Int.tmod (wrap64 (Go.bits .and .u64 ((IntKind.u64.wrap ((IntKind.u64.wrap (s0_2 * 6364136223846793005)) + 1442695040888963407)) / 8589934592) 16777215)) a1, s0_1, IntKind.u64.wrap ((IntKind.u64.wrap (s0_2 * 6364136223846793005)) + 1442695040888963407)))))
set_option maxHeartbeats 8000000 in
set_option maxRecDepth 100000 in
theorem spec_l01Next.calls (g : Nat) (s0_0 : List Int) (s0_1 : Int) (s0_2 : Int) (a1 : Int) (r1 : Int) (r2 : Int) (r3 : Int) (w0 w : World) (hI : IsS85 w0 w g s0_0 s0_1 s0_2) (hB : Below w0.heap.size w0 w) (h : spec_l01Next.f s0_0 s0_1 s0_2 a1 = some (r1, r2, r3)) :
    Calls Tryz.prog 58 #[.pointer (some ⟨g, 0, none⟩), .int .i64 a1] w fun e w' => e = .returned (.int .i64 r1) ∧ IsS85 w0 w' g s0_0 r2 r3 ∧ Below w0.heap.size w0 w' ∧ KeepBut w w' g none := by
  have HI0 := Aside0.mk hI
  have HK := Aside0.mk (KeepBut.refl w g none)
  have HL := Aside0.mk hB.size
  clear hI
  have HW0 := Aside0.mk hB.size
  have HB := Aside0.mk hB
  clear hB
  have H : (if a1 < 1 then (some (0, s0_1, s0_2)) else (if s0_1 < (s0_0.length : Int) then (if 0 ≤ s0_1 then (if a1 = 0 then (none) else (some (Int.tmod (wrap64 ((wrap64 (Go.bits .and .u64 ((IntKind.u64.wrap ((IntKind.u64.wrap (s0_2 * 6364136223846793005)) + 1442695040888963407)) / 8589934592) 16777215)) + (wrap64 (rd s0_0 s0_1)))) a1, wrap64 (s0_1 + 1), IntKind.u64.wrap ((IntKind.u64.wrap (s0_2 * 6364136223846793005)) + 1442695040888963407)))) else (none)) else (if a1 = 0 then (none) else (some (Int.tmod (wrap64 (Go.bits .and .u64 ((IntKind.u64.wrap ((IntKind.u64.wrap (s0_2 * 6364136223846793005)) + 1442695040888963407)) / 8589934592) 16777215)) a1, s0_1, IntKind.u64.wrap ((IntKind.u64.wrap (s0_2 * 6364136223846793005)) + 1442695040888963407)))))) = some (r1, r2, r3) := h
  clear h
  by_cases c3 : a1 < 1
  · rw [if_pos c3] at H
    have c3b0 := decide_eq_true c3
    clear c3
    simp only [Option.some.injEq, Prod.mk.injEq] at H
    obtain ⟨rfl, rfl, rfl⟩ := H
    go_enter Tryz.func58, Tryz.ntmps58
    go_wp2
    repeat (go_quiet (fail); try go_wp2)
    go_ret
    exact ⟨zE, zI HI0.out, zH1 HB.out (IsS85.ge HI0.out), zJ HK.out⟩
  · rw [if_neg c3] at H
    have c3b0 := decide_eq_false c3
    clear c3
    by_cases c4 : s0_1 < (s0_0.length : Int)
    · rw [if_pos c4] at H
      have c4b0 := decide_eq_true c4
      clear c4
      by_cases c5 : 0 ≤ s0_1
      · rw [if_pos c5] at H
        have c5b0 := decide_eq_true c5
        clear c5
        by_cases c6 : a1 = 0
        · rw [if_pos c6] at H
          exact absurd H (by simp)
        · rw [if_neg c6] at H
          have c6b0 := zq3 c6
          have c6b1 := zq4 c6
          simp only [Option.some.injEq, Prod.mk.injEq] at H
          obtain ⟨rfl, rfl, rfl⟩ := H
          obtain ⟨ASz7_0, cSz7_0, HGz7, hgz7, HSz7_0⟩ := HI0.out
          have hcz7_0 := cellS85_0 HGz7
          have hcz7_1 := cellS85_1 HGz7
          have hcz7_2 := cellS85_2 HGz7
          have hfz7_1 := blk_frozen HGz7 1
          have hfz7_2 := blk_frozen HGz7 2
          clear HGz7 hgz7
          have p120 : 0 ≤ (s0_1 : Int) := of_decide_eq_true (by first | (with_reducible assumption) | assumption)
          have q120 : s0_1 < (s0_0.length : Int) := of_decide_eq_true (by first | (with_reducible assumption) | assumption)
          obtain ⟨ad120, e120, hx120_0⟩ := Kd.at_int HSz7_0 s0_1 p120 q120
          cases e120
          have hn120_0 : ad120.block ≠ g := Nat.ne_of_lt (Nat.lt_of_lt_of_le (by have := World.block_lt_of_cell? _ _ hx120_0; first | rwa [add_block] at this | exact this) (IsS85.ge HI0.out))
          replace hx120_0 := pw_cell_below HB.out hx120_0
          replace hx120_0 := (cell_far (p := ⟨g, 2, none⟩) (by first | (rw [add_block]; exact hn120_0) | (show (Addr.add _ _).block ≠ _; rw [add_block]; exact hn120_0) | exact hn120_0) (.int .u64 (IntKind.u64.wrap ((IntKind.u64.wrap (s0_2 * 6364136223846793005)) + 1442695040888963407)))).trans hx120_0
          (try have hy120_0 := fun (n_ : Nat) => (show (((w.drewN n_).setCell ⟨g, 2, none⟩ (.int .u64 (IntKind.u64.wrap ((IntKind.u64.wrap (s0_2 * 6364136223846793005)) + 1442695040888963407))))).cell? _ = some _ from hx120_0))
          clear hn120_0
          replace p120 := eq_true p120
          replace q120 := eq_true q120
          go_enter Tryz.func58, Tryz.ntmps58
          go_wp2
          repeat (go_quiet (fail); try go_wp2)
          go_ret
          exact ⟨zE, zI HI0.out, zH1 HB.out (IsS85.ge HI0.out), zJ HK.out⟩
      · rw [if_neg c5] at H
        exact absurd H (by simp)
    · rw [if_neg c4] at H
      have c4b0 := decide_eq_false c4
      clear c4
      by_cases c8 : a1 = 0
      · rw [if_pos c8] at H
        exact absurd H (by simp)
      · rw [if_neg c8] at H
        have c8b0 := zq3 c8
        have c8b1 := zq4 c8
        simp only [Option.some.injEq, Prod.mk.injEq] at H
        obtain ⟨rfl, rfl, rfl⟩ := H
        obtain ⟨ASz9_0, cSz9_0, HGz9, hgz9, HSz9_0⟩ := HI0.out
        have hcz9_0 := cellS85_0 HGz9
        have hcz9_1 := cellS85_1 HGz9
        have hcz9_2 := cellS85_2 HGz9
        have hfz9_1 := blk_frozen HGz9 1
        have hfz9_2 := blk_frozen HGz9 2
        clear HGz9 hgz9
        go_enter Tryz.func58, Tryz.ntmps58
        go_wp2
        repeat (go_quiet (fail); try go_wp2)
        go_ret
        exact ⟨zE, zI HI0.out, zH1 HB.out (IsS85.ge HI0.out), zJ HK.out⟩

/-! ### spec_l01Pick: function 66 -/
def spec_l01Pick.f (s0_0 : List Int) (s0_1 : Int) (s0_2 : Int) (l1 : List Int) : Option (Int × Int × Int) := (spec_l01Next.f s0_0 s0_1 s0_2 (l1.length : Int)).bind fun bt121 => (if 0 ≤ bt121.1 then (if bt121.1 < (l1.length : Int) then (some (rd l1 bt121.1, bt121.2.1, bt121.2.2)) else (none)) else (none))
set_option maxHeartbeats 8000000 in
set_option maxRecDepth 100000 in
theorem spec_l01Pick.calls (g : Nat) (s0_0 : List Int) (s0_1 : Int) (s0_2 : Int) (A1 : Option Addr) (c1 : Nat) (l1 : List Int) (r1 : Int) (r2 : Int) (r3 : Int) (w0 w : World) (hI : IsS85 w0 w g s0_0 s0_1 s0_2) (hB : Below w0.heap.size w0 w) (hr1 : Kd.C (Kd.int .i64) w A1 l1.length l1) (hc1 : l1.length ≤ c1) (hf1 : ∀ ad, A1 = some ad → 0 < l1.length → ad.block ≠ g) (h : spec_l01Pick.f s0_0 s0_1 s0_2 l1 = some (r1, r2, r3)) :
    Calls Tryz.prog 66 #[.pointer (some ⟨g, 0, none⟩), .slice A1 l1.length c1] w fun e w' => e = .returned (.int .i64 r1) ∧ IsS85 w0 w' g s0_0 r2 r3 ∧ Below w0.heap.size w0 w' ∧ KeepBut w w' g none := by
  have HR1 := Aside0.mk hr1
  have HC1 := Aside0.mk hc1
  clear hr1 hc1
  have HI0 := Aside0.mk hI
  have HK := Aside0.mk (KeepBut.refl w g none)
  have HL := Aside0.mk hB.size
  clear hI
  have HW0 := Aside0.mk hB.size
  have HB := Aside0.mk hB
  clear hB
  have H : ((spec_l01Next.f s0_0 s0_1 s0_2 (l1.length : Int)).bind fun bt121 => (if 0 ≤ bt121.1 then (if bt121.1 < (l1.length : Int) then (some (rd l1 bt121.1, bt121.2.1, bt121.2.2)) else (none)) else (none))) = some (r1, r2, r3) := h
  clear h
  obtain ⟨⟨t121, t122, t123⟩, A3, H⟩ := zb H; (try dsimp only at H)
  by_cases c4 : 0 ≤ t121
  · rw [if_pos c4] at H
    have c4b0 := decide_eq_true c4
    clear c4
    by_cases c5 : t121 < (l1.length : Int)
    · rw [if_pos c5] at H
      have c5b0 := decide_eq_true c5
      clear c5
      simp only [Option.some.injEq, Prod.mk.injEq] at H
      obtain ⟨rfl, rfl, rfl⟩ := H
      go_enter Tryz.func66, Tryz.ntmps66
      go_wp2_with (first | ((with_reducible refine gate_callee (f := 58) rfl ?_); refine goesL_ (some 9) rfl rfl Tryz.func58 (by kernel_rfl) rfl #[.pointer (some ⟨g, 0, none⟩), .int .i64 (l1.length : Int)] rfl zM ?_; (with_reducible refine (spec_l01Next.calls g s0_0 s0_1 s0_2 (l1.length : Int) t121 t122 t123 w0 _ ?side1 ?side2 A3.out).mono ?_); (case side1 => exact zI HI0.out); (case side2 => exact zH1 HB.out (IsS85.ge HI0.out)); rintro e w6 ⟨rfl, hi, hb, hk⟩; refine ⟨_, rfl, ?_⟩; refine zA3 (KeepBut.trans (zJ HK.out) hk (.inl rfl)) (hb) (hi) ?_; clear HK HB HI0; intro HK HB HI0; (try clear hb); (try clear hb2); (try clear hk); (try clear hi); have p124 : 0 ≤ (t121 : Int) := of_decide_eq_true (by first | (with_reducible assumption) | assumption); have q124 : t121 < (l1.length : Int) := of_decide_eq_true (by first | (with_reducible assumption) | assumption); obtain ⟨ad124, e124, hx124_0⟩ := Kd.at_int HR1.out t121 p124 q124; cases e124; replace hx124_0 := keep_cell HK.out hx124_0 (by first | (rw [add_block]; exact hf1 _ rfl (by omega)) | exact hf1 _ rfl (by omega) | exact hf1 ad124 rfl (by omega)); replace p124 := eq_true p124; replace q124 := eq_true q124))
      go_ret
      exact ⟨zE, zI HI0.out, zH1 HB.out (IsS85.ge HI0.out), zJ HK.out⟩
    · rw [if_neg c5] at H
      exact absurd H (by simp)
  · rw [if_neg c4] at H
    exact absurd H (by simp)

/-! ### spec_l05Draw: function 57 -/
mutual
def spec_l05Draw.l0 : Nat → Int → Int → Int → Int → List Int → Int → Int → Int → Int → Int → Int → Option (Int × Int × Int × Int × Int × Int)
  | 0, _, _, _, _, _, _, _, _, _, _, _ => none
  | k + 1, x1, x2, x8, x9, x1000, x1001, x1002, x133000, x133001, x133002, x133003 => if x9 < (wrap64 (Int.tdiv (wrap64 (x1 * (wrap64 (x1 - 1)))) 2)) then ((spec_l01Next.f x1000 x1001 x1002 x8).bind fun bt133 => (if bt133.1 = 0 then (if 0 ≤ (IntKind.u64.wrap (x9)) then (spec_l05Draw.l0 k x1 x2 x8 (wrap64 (x9 + 1)) x1000 bt133.2.1 bt133.2.2 x133000 (Go.bits .or .i64 x133001 (shl .i64 1 (IntKind.u64.wrap (x9)))) x133002 x133003) else (none)) else (spec_l05Draw.l0 k x1 x2 x8 (wrap64 (x9 + 1)) x1000 bt133.2.1 bt133.2.2 x133000 x133001 x133002 x133003))) else ((spec_l01Next.f x1000 x1001 x1002 4).bind fun bt136 => (spec_l05Draw.l1 k x1 x2 bt136.1 x1000 bt136.2.1 bt136.2.2 x133000 x133001 x133002 x133003))
def spec_l05Draw.l1 : Nat → Int → Int → Int → List Int → Int → Int → Int → Int → Int → Int → Option (Int × Int × Int × Int × Int × Int)
  | 0, _, _, _, _, _, _, _, _, _, _ => none
  | k + 1, x1, x2, x10, x1000, x1001, x1002, x133000, x133001, x133002, x133003 => if x10 > 0 then ((spec_l05Points.f k x133000 x133001 x133002 x133003 x2 (Int.tmod x10 2)).bind fun t139 => (if (t139.length : Int) > 0 then ((spec_l01Next.f x1000 x1001 x1002 (t139.length : Int)).bind fun bt142 => (if 0 ≤ bt142.1 then (if bt142.1 < (t139.length : Int) then ((spec_l05Move.f x133000 x133001 x133002 x133003 (Int.tmod x10 2) (rd t139 bt142.1)).bind fun bt146 => (spec_l05Draw.l1 k x1 x2 (wrap64 (x10 - 1)) x1000 bt142.2.1 bt142.2.2 bt146.1 bt146.2.1 bt146.2.2.1 bt146.2.2.2)) else (none)) else (none))) else (spec_l05Draw.l1 k x1 x2 (wrap64 (x10 - 1)) x1000 x1001 x1002 x133000 x133001 x133002 x133003))) else ((spec_l01Next.f x1000 x1001 x1002 10).bind fun bt150 => (if bt150.1 = 0 then ((spec_l01Next.f x1000 bt150.2.1 bt150.2.2 x1).bind fun bt153 => (if 0 ≤ (IntKind.u64.wrap (bt153.1)) then (some (x133000, x133001, Go.bits .andNot .i64 x133002 (shl .i64 1 (IntKind.u64.wrap (bt153.1))), Go.bits .or .i64 x133003 (shl .i64 1 (IntKind.u64.wrap (bt153.1))), bt153.2.1, bt153.2.2)) else (none))) else (some (x133000, x133001, x133002, x133003, bt150.2.1, bt150.2.2))))
end
def spec_l05Draw.f (k : Nat) (s0_0 : List Int) (s0_1 : Int) (s0_2 : Int) (a1 : Int) (a2 : Int) : Option (Int × Int × Int × Int × Int × Int) := (spec_l01Pick.f s0_0 s0_1 s0_2 (([2, 3, 3, 5] : List Int))).bind fun bt129 => (spec_l05Draw.l0 k a1 a2 bt129.1 0 s0_0 bt129.2.1 bt129.2.2 a1 0 0 0)
def spec_l05Draw.T12 : Bool × List (List Nat × List Nat) := (true, [([], []), ([], []), ([1], [1]), ([], []), ([], []), ([], []), ([5], [5]), ([4, 6], [4, 6]), ([3, 7], [3, 7]), ([8], [8]), ([0, 2, 9, 7], [0, 2, 9]), ([10, 10, 0, 1, 2, 3, 4, 5, 6, 7, 8, 9, 10], [10])])
def spec_l05Draw.B12 : List Nat := [0, 0, 2, 0, 0, 0, 32, 112, 248, 504, 1023, 2047]
theorem spec_l05Draw.tab12 : rtab .any (opsOf Tryz.f57 12) = spec_l05Draw.T12 := by kernel_rfl
theorem spec_l05Draw.bits12 : waitsOk spec_l05Draw.T12.2 spec_l05Draw.B12 = true := by kernel_rfl
set_option maxHeartbeats 8000000 in
set_option maxRecDepth 100000 in
theorem spec_l05Draw.calls (k : Nat) (g : Nat) (s0_0 : List Int) (s0_1 : Int) (s0_2 : Int) (a1 : Int) (a2 : Int) (r1 : Int) (r2 : Int) (r3 : Int) (r4 : Int) (r5 : Int) (r6 : Int) (w0 w : World) (hI : IsS85 w0 w g s0_0 s0_1 s0_2) (hB : Below w0.heap.size w0 w) (h : spec_l05Draw.f k s0_0 s0_1 s0_2 a1 a2 = some (r1, r2, r3, r4, r5, r6)) :
    Calls Tryz.prog 57 #[.pointer (some ⟨g, 0, none⟩), .int .i64 a1, .int .i64 a2] w fun e w' => e = .returned (.agg #[.int .i64 r1, .int .i64 r2, .int .i64 r3, .int .i64 r4]) ∧ IsS85 w0 w' g s0_0 r5 r6 ∧ Below w0.heap.size w0 w' ∧ KeepBut w w' g none := by
  have hu25 := Tryz.underlying25
  have HI0 := Aside0.mk hI
  have HK := Aside0.mk (KeepBut.refl w g none)
  have HL := Aside0.mk hB.size
  clear hI
  have HW0 := Aside0.mk hB.size
  have HB := Aside0.mk hB
  clear hB
  have H : ((spec_l01Pick.f s0_0 s0_1 s0_2 (([2, 3, 3, 5] : List Int))).bind fun bt129 => (spec_l05Draw.l0 k a1 a2 bt129.1 0 s0_0 bt129.2.1 bt129.2.2 a1 0 0 0)) = some (r1, r2, r3, r4, r5, r6) := h
  clear h
  obtain ⟨y126, hy126⟩ : ∃ y_ : List Int, y_ = (([2, 3, 3, 5] : List Int)) := ⟨_, rfl⟩
  replace H : ((spec_l01Pick.f s0_0 s0_1 s0_2 y126).bind fun bt129 => (spec_l05Draw.l0 k a1 a2 bt129.1 0 s0_0 bt129.2.1 bt129.2.2 a1 0 0 0)) = some (r1, r2, r3, r4, r5, r6) := by first | (rw [hy126]; with_reducible exact H) | (have H2_ := (Option.bind_some _ _).symm.trans H; rw [hy126]; with_reducible exact H2_) | (have H2_ := (Option.bind_some _ _).symm.trans H; with_reducible exact H2_) | with_reducible exact H | (rw [hy126]; exact H) | exact H
  have Ny126 := Aside0.mk hy126
  clear hy126
  obtain ⟨⟨t129, t130, t131⟩, A4, H⟩ := zb H; (try dsimp only at H)
  have H' := Aside0.mk H
  clear H
  go_enter Tryz.func57, Tryz.ntmps57
  go_wp2_with (first | ((with_reducible refine gate_dst (N := 6) rfl ?_); refine zX 6 #[.int .i64 0, .int .i64 0, .int .i64 0, .int .i64 0] 25 ?_; intro gb125 hg w5 hbox hb; refine zA8 (IsS85.below (zI HI0.out) hb) (KeepBut.trans (zJ HK.out) (KeepBut.of_below hb g none) (.inl rfl)) (below_step (zH1 HB.out (IsS85.ge HI0.out)) hb) (hbox) ((by rw [hg]; exact (keep_size (w := w) (g := g) (row := none) (zJ HK.out)) : w.heap.size ≤ gb125)) ((Nat.le_trans HW0.out (by rw [hg]; exact (keep_size (w := w) (g := g) (row := none) (zJ HK.out)) : w.heap.size ≤ gb125) : w0.heap.size ≤ gb125)) ((zl hg (IsS85.lt (show IsS85 w0 _ g s0_0 s0_1 s0_2 from zI HI0.out)) : g ≠ gb125)) ((zg hg (IsS85.lt (show IsS85 w0 _ g s0_0 s0_1 s0_2 from zI HI0.out)) : gb125 ≠ g)) ?_; clear HI0 HK HB; intro HI0 HK HB BK125 GW125 GE125 NB0_125 NB125_0; clear hb hbox hg) | ((with_reducible refine gate_dst (N := 16) rfl ?_); refine Kd.R_lit (Kd.int .i64) _ 2 ?hg (N := 16) ?hd (xs := ([2, 3, 3, 5] : List Int)) (inner := [.int .i64 2, .int .i64 3, .int .i64 3, .int .i64 5]) (ok := fun _ => True) (okp := fun _ => True) ?hr ?hp (fun _ hk => hk) trivial (Below.refl _ _) (Nat.le_refl _) (by simp) ?_; (case hd => rfl); (case hg => rfl); (case hr => first | (go_simp; done) | (go_simp; rfl)); (case hp => exact (Reps.one (show Kd.M (Kd.int .i64) _ _ _ 2 [.int .i64 2] from rfl) (Reps.one (show Kd.M (Kd.int .i64) _ _ _ 3 [.int .i64 3] from rfl) (Reps.one (show Kd.M (Kd.int .i64) _ _ _ 3 [.int .i64 3] from rfl) (Reps.one (show Kd.M (Kd.int .i64) _ _ _ 5 [.int .i64 5] from rfl) (Reps.none _ _)))))); intro v127 w6 ho7 hb hg_ hnew_; clear hg_ hnew_; (first | rw [← Ny126.out] at ho7 | (simp only [Int.reduceToNat] at ho7; rw [← Ny126.out] at ho7)); refine zA5 (Kd.R_lower ho7 (keep_size (w := w) (g := g) (row := none) (zJ1 HK.out GW125.out))) (IsS85.below (zI1 HI0.out NB0_125.out) hb) (zY BK125.out hb) (KeepBut.trans (zJ1 HK.out GW125.out) (KeepBut.of_below hb g none) (.inl rfl)) (below_step (zH2 HB.out (IsS85.ge HI0.out) GE125.out) hb) ?_; clear HI0 BK125 HK HB; intro HO128 HI0 BK125 HK HB; clear hb ho7; obtain ⟨Ao8, co8, eo8⟩ := Kd.R_slice HO128.out; subst eo8) | ((with_reducible refine gate_callee (f := 66) rfl ?_); refine goesL_ (some 17) rfl rfl Tryz.func66 (by kernel_rfl) rfl #[.pointer (some ⟨g, 0, none⟩), .slice Ao8 y126.length co8] rfl zM ?_; (with_reducible refine (spec_l01Pick.calls g s0_0 s0_1 s0_2 _ _ y126 t129 t130 t131 w0 _ ?side1 ?side2 ?side3 ?side4 ?side5 A4.out).mono ?_); (case side1 => exact zI1 HI0.out NB0_125.out); (case side2 => exact zH2 HB.out (IsS85.ge HI0.out) GE125.out); (case side3 => repeat (first | exact (Kd.R_reads' HO128.out).2.2 | (with_reducible refine Kd.C_alloc ?_ _) | (with_reducible refine Kd.C_drewN ?_ _) | (with_reducible refine Kd.C_drew ?_))); (case side4 => exact (Kd.R_reads' HO128.out).2.1); (case side5 => exact far_slice (IsS85.own_ne HI0.out HO128.out (by decide))); rintro e w9 ⟨rfl, hi, hb, hk⟩; refine ⟨_, rfl, ?_⟩; refine zA5 (zYk hk BK125.out NB125_0.out) (Kd.R_mono (Kd.R_keep (IsS85.apart (show IsS85 w0 _ g s0_0 s0_1 s0_2 from zI1 HI0.out NB0_125.out) (zR HO128.out) (by decide)) hk (fun _ h => h.2)) (fun _ h => h.1)) (KeepBut.trans (zJ1 HK.out GW125.out) hk (.inl rfl)) (hb) (hi) ?_; clear BK125 HO128 HK HB HI0; intro BK125 HO128 HK HB HI0; (try clear hb); (try clear hb2); (try clear hk); (try clear hi)) | ((with_reducible refine gate_dst (N := 7) rfl ?_); refine zX 7 #[.int .i64 0, .int .i64 0, .int .i64 0, .int .i64 0] 25 ?_; intro gb132 hg w10 hbox hb; refine zA12 (Kd.R_below (zR HO128.out) hb) (IsS85.below (zI1 HI0.out NB0_125.out) hb) (zY BK125.out hb) (KeepBut.trans (zJ1 HK.out GW125.out) (KeepBut.of_below hb g none) (.inl rfl)) (below_step (zH2 HB.out (IsS85.ge HI0.out) GE125.out) hb) (hbox) ((by rw [hg]; exact (keep_size (w := w) (g := g) (row := none) (zJ1 HK.out GW125.out)) : w.heap.size ≤ gb132)) ((Nat.le_trans HW0.out (by rw [hg]; exact (keep_size (w := w) (g := g) (row := none) (zJ1 HK.out GW125.out)) : w.heap.size ≤ gb132) : w0.heap.size ≤ gb132)) ((zl hg (blk_lt (g := gb125) (o := .cells #[.int .i64 0, .int .i64 0, .int .i64 0, .int .i64 0] 25 (0, 0)) (zB BK125.out)) : gb125 ≠ gb132)) ((zg hg (blk_lt (g := gb125) (o := .cells #[.int .i64 0, .int .i64 0, .int .i64 0, .int .i64 0] 25 (0, 0)) (zB BK125.out)) : gb132 ≠ gb125)) ((zl hg (IsS85.lt (show IsS85 w0 _ g s0_0 t130 t131 from zI1 HI0.out NB0_125.out)) : g ≠ gb132)) ((zg hg (IsS85.lt (show IsS85 w0 _ g s0_0 t130 t131 from zI1 HI0.out NB0_125.out)) : gb132 ≠ g)) ?_; clear HO128 HI0 BK125 HK HB; intro HO128 HI0 BK125 HK HB BK132 GW132 GE132 NB125_132 NB132_125 NB0_132 NB132_0; clear hb hbox hg; have hnb11 := NB132_125.out; have hnc11 := NB125_132.out; have hnb12 := NB132_0.out; have hnc12 := NB0_132.out; obtain ⟨hcz13_0, hcz13_1, hcz13_2, hcz13_3⟩ := zc4 BK132; obtain ⟨hfz13_0, hfz13_1, hfz13_2, hfz13_3⟩ := zf4 BK132))
  go_loopg [9] k (fun kq v9 w' => ∃ (x9_1 : Int) (x1001_1 : Int) (x1002_1 : Int) (x133001_1 : Int), v9 = .int .i64 x9_1 ∧ Aside0 (spec_l05Draw.l0 kq a1 a2 t129 x9_1 s0_0 x1001_1 x1002_1 a1 x133001_1 0 0 = some (r1, r2, r3, r4, r5, r6)) ∧ Aside0 (kq ≤ k) ∧ Aside0 (w'.heap[gb125]? = some (.cells #[.int .i64 0, .int .i64 0, .int .i64 0, .int .i64 0] 25 (0, 0))) ∧ Aside0 (w'.heap[gb132]? = some (.cells #[.int .i64 a1, .int .i64 x133001_1, .int .i64 0, .int .i64 0] 25 (0, 0))) ∧ Aside0 (IsS85 w0 w' g s0_0 x1001_1 x1002_1) ∧ Aside0 (KeepBut w w' g none) ∧ Aside0 (Below w0.heap.size w0 w'))
  case atStart => exact ⟨(0), (t130), (t131), (0), (zF), H', ⟨Nat.le_refl _⟩, ⟨zQ1 BK125.out NB125_132.out⟩, ⟨zQ BK132.out⟩, ⟨zI2 HI0.out NB0_125.out NB0_132.out⟩, ⟨zJ2 HK.out GW125.out GW132.out⟩, ⟨zH3 HB.out (IsS85.ge HI0.out) GE125.out GE132.out⟩⟩
  case round =>
    clear H'
    try clear c1
    try clear p2
    try clear c5
    try clear c6
    try clear c11
    try clear c12
    try clear hcz13_0
    try clear hcz13_1
    try clear hcz13_2
    try clear hcz13_3
    try clear hfz13_0
    try clear hfz13_1
    try clear hfz13_2
    try clear hfz13_3
    obtain ⟨x9_1, x1001_1, x1002_1, x133001_1, rfl, HA, HK1, BK125, BK132, HI0, HK, HB⟩ := hrel
    cases gk with
    | zero => exact absurd HA.out (by simp [spec_l05Draw.l0])
    | succ k1 =>
      have H := HA.out
      clear HA
      simp only [spec_l05Draw.l0] at H
      by_cases c14 : x9_1 < (wrap64 (Int.tdiv (wrap64 (a1 * (wrap64 (a1 - 1)))) 2))
      · rw [if_pos c14] at H
        have c14b0 := decide_eq_true c14
        clear c14
        obtain ⟨⟨t133, t134, t135⟩, A15, H⟩ := zb H; (try dsimp only at H)
        by_cases c16 : t133 = 0
        · rw [if_pos c16] at H
          have c16b0 := zq1 c16
          have c16b1 := zq2 c16
          clear c16
          obtain ⟨ji17, hji17⟩ := zj (IntKind.u64.wrap (x9_1))
          (first | rw [hji17] at H | simp only [hji17] at H)
          (try rw [hji17] at A15)
          by_cases c18 : 0 ≤ (ji17)
          · rw [if_pos c18] at H
            have c18b0 := eq_true c18
            have c18b1 := decide_eq_true c18
            clear c18
            obtain ⟨ji19, hji19⟩ := zj (shl .i64 1 (ji17))
            (first | rw [hji19] at H | simp only [hji19] at H)
            (try rw [hji19] at A15)
            have hji19_ : (IntKind.i64.wrap (1 * 2 ^ min (ji17).toNat 64)) = ji19 := hji19
            have hji19z : (ji17) ≤ 64 → (IntKind.i64.wrap (1 * 2 ^ (ji17).toNat)) = ji19 := shl_small hji19
            have hji19u : (IntKind.i64.wrap (2 ^ min (ji17).toNat 64)) = ji19 := by have h_ := hji19_; rw [Int.one_mul] at h_; exact h_
            have hji19v : (ji17) ≤ 64 → (IntKind.i64.wrap (2 ^ (ji17).toNat)) = ji19 := fun hle_ => by have h_ := hji19z hle_; rw [Int.one_mul] at h_; exact h_
            have hji19y : (wrap64 (1 * 2 ^ min (ji17).toNat 64)) = ji19 := (i64_w _).symm.trans hji19_
            have hji19x : (ji17) ≤ 64 → (wrap64 (1 * 2 ^ (ji17).toNat)) = ji19 := fun h_ => (i64_w _).symm.trans (hji19z h_)
            have H' := Aside0.mk H
            clear H
            go_wp2_with (first | ((with_reducible refine gate_callee (f := 58) rfl ?_); refine goesL_ (some 29) rfl rfl Tryz.func58 (by kernel_rfl) rfl #[.pointer (some ⟨g, 0, none⟩), .int .i64 t129] rfl zM ?_; (with_reducible refine (spec_l01Next.calls g s0_0 x1001_1 x1002_1 t129 t133 t134 t135 w0 _ ?side1 ?side2 A15.out).mono ?_); (case side1 => exact zI2 HI0.out NB0_125.out NB0_132.out); (case side2 => exact zH3 HB.out (IsS85.ge HI0.out) GE125.out GE132.out); rintro e w20 ⟨rfl, hi, hb, hk⟩; refine ⟨_, rfl, ?_⟩; refine zA5 (zYk hk BK125.out NB125_0.out) (zYk hk BK132.out NB132_0.out) (KeepBut.trans (zJ2 HK.out GW125.out GW132.out) hk (.inl rfl)) (hb) (hi) ?_; clear BK125 BK132 HK HB HI0; intro BK125 BK132 HK HB HI0; (try clear hb); (try clear hb2); (try clear hk); (try clear hi); have hnb21 := NB132_125.out; have hnc21 := NB125_132.out; have hnb22 := NB132_0.out; have hnc22 := NB0_132.out; obtain ⟨hcz23_0, hcz23_1, hcz23_2, hcz23_3⟩ := zc4 BK132; obtain ⟨hfz23_0, hfz23_1, hfz23_2, hfz23_3⟩ := zf4 BK132))
            go_roundg k1
            case measure => have := HK1.out; omega
            case rel => exact ⟨(wrap64 (x9_1 + 1)), (t134), (t135), (Go.bits .or .i64 x133001_1 (ji19)), (zF), H', ⟨by have := HK1.out; omega⟩, ⟨zQ1 BK125.out NB125_132.out⟩, ⟨zQ BK132.out⟩, ⟨zI2 HI0.out NB0_125.out NB0_132.out⟩, ⟨zJ2 HK.out GW125.out GW132.out⟩, ⟨zH3 HB.out (IsS85.ge HI0.out) GE125.out GE132.out⟩⟩
          · rw [if_neg c18] at H
            exact absurd H (by simp)
        · rw [if_neg c16] at H
          have c16b0 := zq3 c16
          have c16b1 := zq4 c16
          have H' := Aside0.mk H
          clear H
          go_wp2_with (first | ((with_reducible refine gate_callee (f := 58) rfl ?_); refine goesL_ (some 29) rfl rfl Tryz.func58 (by kernel_rfl) rfl #[.pointer (some ⟨g, 0, none⟩), .int .i64 t129] rfl zM ?_; (with_reducible refine (spec_l01Next.calls g s0_0 x1001_1 x1002_1 t129 t133 t134 t135 w0 _ ?side1 ?side2 A15.out).mono ?_); (case side1 => exact zI2 HI0.out NB0_125.out NB0_132.out); (case side2 => exact zH3 HB.out (IsS85.ge HI0.out) GE125.out GE132.out); rintro e w24 ⟨rfl, hi, hb, hk⟩; refine ⟨_, rfl, ?_⟩; refine zA5 (zYk hk BK125.out NB125_0.out) (zYk hk BK132.out NB132_0.out) (KeepBut.trans (zJ2 HK.out GW125.out GW132.out) hk (.inl rfl)) (hb) (hi) ?_; clear BK125 BK132 HK HB HI0; intro BK125 BK132 HK HB HI0; (try clear hb); (try clear hb2); (try clear hk); (try clear hi)))
          go_roundg k1
          case measure => have := HK1.out; omega
          case rel => exact ⟨(wrap64 (x9_1 + 1)), (t134), (t135), (x133001_1), (zF), H', ⟨by have := HK1.out; omega⟩, ⟨zB BK125.out⟩, ⟨zB BK132.out⟩, ⟨zI2 HI0.out NB0_125.out NB0_132.out⟩, ⟨zJ2 HK.out GW125.out GW132.out⟩, ⟨zH3 HB.out (IsS85.ge HI0.out) GE125.out GE132.out⟩⟩
      · rw [if_neg c14] at H
        have c14b0 := decide_eq_false c14
        clear c14
        obtain ⟨⟨t136, t137, t138⟩, A25, H⟩ := zb H; (try dsimp only at H)
        have H' := Aside0.mk H
        clear H
        go_wp2_with (first | ((with_reducible refine gate_callee (f := 58) rfl ?_); refine goesL_ (some 39) rfl rfl Tryz.func58 (by kernel_rfl) rfl #[.pointer (some ⟨g, 0, none⟩), .int .i64 4] rfl zM ?_; (with_reducible refine (spec_l01Next.calls g s0_0 x1001_1 x1002_1 4 t136 t137 t138 w0 _ ?side1 ?side2 A25.out).mono ?_); (case side1 => exact zI2 HI0.out NB0_125.out NB0_132.out); (case side2 => exact zH3 HB.out (IsS85.ge HI0.out) GE125.out GE132.out); rintro e w26 ⟨rfl, hi, hb, hk⟩; refine ⟨_, rfl, ?_⟩; refine zA5 (zYk hk BK125.out NB125_0.out) (zYk hk BK132.out NB132_0.out) (KeepBut.trans (zJ2 HK.out GW125.out GW132.out) hk (.inl rfl)) (hb) (hi) ?_; clear BK125 BK132 HK HB HI0; intro BK125 BK132 HK HB HI0; (try clear hb); (try clear hb2); (try clear hk); (try clear hi)))
        go_loopg [10] k1 (fun kq v10 w' => ∃ (x10_2 : Int) (x1001_2 : Int) (x1002_2 : Int) (x133000_2 : Int) (x133001_2 : Int) (x133002_2 : Int) (x133003_2 : Int), v10 = .int .i64 x10_2 ∧ Aside0 (spec_l05Draw.l1 kq a1 a2 x10_2 s0_0 x1001_2 x1002_2 x133000_2 x133001_2 x133002_2 x133003_2 = some (r1, r2, r3, r4, r5, r6)) ∧ Aside0 (kq ≤ k1) ∧ Aside0 (w'.heap[gb125]? = some (.cells #[.int .i64 0, .int .i64 0, .int .i64 0, .int .i64 0] 25 (0, 0))) ∧ Aside0 (w'.heap[gb132]? = some (.cells #[.int .i64 x133000_2, .int .i64 x133001_2, .int .i64 x133002_2, .int .i64 x133003_2] 25 (0, 0))) ∧ Aside0 (IsS85 w0 w' g s0_0 x1001_2 x1002_2) ∧ Aside0 (KeepBut w w' g none) ∧ Aside0 (Below w0.heap.size w0 w'))
        case atStart => exact ⟨(t136), (t137), (t138), (a1), (x133001_1), (0), (0), (zF), H', ⟨Nat.le_refl _⟩, ⟨zB BK125.out⟩, ⟨zB BK132.out⟩, ⟨zI2 HI0.out NB0_125.out NB0_132.out⟩, ⟨zJ2 HK.out GW125.out GW132.out⟩, ⟨zH3 HB.out (IsS85.ge HI0.out) GE125.out GE132.out⟩⟩
        case round =>
          clear H'
          try clear c1
          try clear c2
          try clear p2
          try clear c5
          try clear c6
          try clear p6
          try clear c11
          try clear c12
          try clear c14
          try clear c14b0
          try clear c16
          try clear c16b0
          try clear c16b1
          try clear c18
          try clear c18b0
          try clear c18b1
          try clear c21
          try clear c22
          try clear hcz13_0
          try clear hcz13_1
          try clear hcz13_2
          try clear hcz13_3
          try clear hcz23_0
          try clear hcz23_1
          try clear hcz23_2
          try clear hcz23_3
          try clear hfz13_0
          try clear hfz13_1
          try clear hfz13_2
          try clear hfz13_3
          try clear hfz23_0
          try clear hfz23_1
          try clear hfz23_2
          try clear hfz23_3
          try clear p2
          obtain ⟨x10_2, x1001_2, x1002_2, x133000_2, x133001_2, x133002_2, x133003_2, rfl, HA, HK2, BK125, BK132, HI0, HK, HB⟩ := hrel
          cases gk with
          | zero => exact absurd HA.out (by simp [spec_l05Draw.l1])
          | succ k2 =>
            have H := HA.out
            clear HA
            simp only [spec_l05Draw.l1] at H
            by_cases c27 : x10_2 > 0
            · rw [if_pos c27] at H
              have c27b0 := decide_eq_true c27
              clear c27
              obtain ⟨t139, A28, H⟩ := zb H
              by_cases c29 : (t139.length : Int) > 0
              · rw [if_pos c29] at H
                have c29b0 := decide_eq_true c29
                have c29b1 : decide (0 < t139.length) = true := decide_eq_true (by omega)
                clear c29
                obtain ⟨⟨t142, t143, t144⟩, A30, H⟩ := zb H; (try dsimp only at H)
                by_cases c31 : 0 ≤ t142
                · rw [if_pos c31] at H
                  have c31b0 := decide_eq_true c31
                  clear c31
                  by_cases c32 : t142 < (t139.length : Int)
                  · rw [if_pos c32] at H
                    have c32b0 := decide_eq_true c32
                    clear c32
                    obtain ⟨⟨t146, t147, t148, t149⟩, A33, H⟩ := zb H; (try dsimp only at H)
                    have H' := Aside0.mk H
                    clear H
                    have hnb34 := NB132_125.out
                    have hnc34 := NB125_132.out
                    have hnb35 := NB132_0.out
                    have hnc35 := NB0_132.out
                    obtain ⟨hcz36_0, hcz36_1, hcz36_2, hcz36_3⟩ := zc4 BK132
                    obtain ⟨hfz36_0, hfz36_1, hfz36_2, hfz36_3⟩ := zf4 BK132
                    try go_wp2_with (first | ((with_reducible refine gate_callee (f := 45) rfl ?_); refine goesL_ (some 48) rfl rfl Tryz.func45 (by kernel_rfl) rfl #[.agg #[.int .i64 x133000_2, .int .i64 x133001_2, .int .i64 x133002_2, .int .i64 x133003_2], .int .i64 a2, .int .i64 (Int.tmod x10_2 2)] rfl zM ?_; (with_reducible refine (spec_l05Points.calls k2 x133000_2 x133001_2 x133002_2 x133003_2 a2 (Int.tmod x10_2 2) t139 _ A28.out).mono ?_); rintro e w37 ⟨v140, rfl, ho0, hb⟩; refine ⟨_, rfl, ?_⟩; refine zA6 (Kd.R_lower ho0 (keep_size (w := w) (g := g) (row := none) (zJ2 HK.out GW125.out GW132.out))) (zY BK125.out hb) (zY BK132.out hb) (IsS85.below (zI2 HI0.out NB0_125.out NB0_132.out) hb) (KeepBut.trans (zJ2 HK.out GW125.out GW132.out) (KeepBut.of_below hb g none) (.inl rfl)) (below_step (zH3 HB.out (IsS85.ge HI0.out) GE125.out GE132.out) hb) ?_; clear BK125 BK132 HI0 HK HB; intro HO141 BK125 BK132 HI0 HK HB; (try clear hb); (try clear hb2); (try clear hk); (try clear hi); (try clear ho0); obtain ⟨Ao38, co38, eo38⟩ := Kd.R_slice HO141.out; subst eo38))
                    refine zA6 (Kd.R_drew HO141.out) (blk_drew BK125.out) (blk_drew BK132.out) (IsS85.drew HI0.out) (keep_drew HK.out) (below_drew1 HB.out) ?_
                    clear HO141 BK125 BK132 HI0 HK HB
                    intro HO141 BK125 BK132 HI0 HK HB
                    have p145 : 0 ≤ (t142 : Int) := of_decide_eq_true (by first | (with_reducible assumption) | assumption)
                    have q145 : t142 < (t139.length : Int) := of_decide_eq_true (by first | (with_reducible assumption) | assumption)
                    obtain ⟨ad145, e145, hx145_0⟩ := Kd.at_int (Kd.R_reads' HO141.out).2.2 t142 p145 q145
                    cases e145
                    replace p145 := eq_true p145
                    replace q145 := eq_true q145
                    refine start_ (n := 12) (S := fun w' => w'.cell? ⟨gb132, 0, none⟩ = some (.int .i64 x133000_2) ∧ w'.cell? ⟨gb132, 1, none⟩ = some (.int .i64 x133001_2) ∧ w'.cell? ⟨gb132, 2, none⟩ = some (.int .i64 x133002_2) ∧ w'.cell? ⟨gb132, 3, none⟩ = some (.int .i64 x133003_2) ∧ w'.cell? (ad145.add (t142).toNat) = some (.int .i64 (rd t139 t142))) (ds := [11]) #[false, false, false, false, false, false, false, false, false, false, false, false] (by kernel_rfl) rfl rfl ⟨(blk_cell BK132.out 0).trans rfl, (blk_cell BK132.out 1).trans rfl, (blk_cell BK132.out 2).trans rfl, (blk_cell BK132.out 3).trans rfl, hx145_0⟩ (fun hHeld => ?_); refine with_tabW spec_l05Draw.tab12 spec_l05Draw.bits12 (fun HT_ HW_ => ?_)
                    generalize w37.drew = w39 at HO141 BK125 BK132 HI0 HK HB hx145_0 hHeld ⊢
                    refine zP HT_ 1 (some 53) rfl rfl ?_
                    refine zP HT_ 2 (some 54) rfl rfl ?_
                    refine zP HT_ 3 (some 55) rfl rfl ?_
                    refine zP HT_ 4 (some 56) rfl rfl ?_
                    refine zP HT_ 5 (some 57) rfl rfl ?_
                    refine zP HT_ 6 (some 58) rfl rfl ?_
                    refine zT HT_ HW_ hHeld 0 (some 52) rfl rfl ?_
                    refine one_ (i := 7) (N := some 59) #[true, true, true, true, true, true, true, true, false, false, false, false] rfl rfl (one_of HT_.out (by kernel_rfl)) (by decide) (fun K hK => ?_)
                    refine goes_ Tryz.func58 (by kernel_rfl) rfl #[.pointer (some ⟨g, 0, none⟩), .int .i64 (t139.length : Int)] (by rfl) rfl rfl zM ?_
                    with_reducible refine (spec_l01Next.calls g s0_0 x1001_2 x1002_2 (t139.length : Int) t142 t143 t144 w0 _ ?side1 ?side2 A30.out).mono ?_
                    (case side1 => exact zI2 HI0.out NB0_125.out NB0_132.out)
                    (case side2 => exact zH3 HB.out (IsS85.ge HI0.out) GE125.out GE132.out)
                    rintro e w40 ⟨rfl, hi, hb, hk⟩
                    have HS4_ := keep_cell hk (hHeld.2.2.2.2) (by first | (rw [add_block]; exact Kd.own_blk (IsS85.own_ne HI0.out HO141.out (by decide))) | (show (Addr.add _ _).block ≠ _; rw [add_block]; exact Kd.own_blk (IsS85.own_ne HI0.out HO141.out (by decide))) | exact Kd.own_blk (IsS85.own_ne HI0.out HO141.out (by decide)))
                    refine ⟨_, rfl, ?_⟩
                    refine zA6 (zYk hk BK125.out NB125_0.out) (zYk hk BK132.out NB132_0.out) (Kd.R_mono (Kd.R_keep (IsS85.apart (show IsS85 w0 _ g s0_0 x1001_2 x1002_2 from zI2 HI0.out NB0_125.out NB0_132.out) (zR HO141.out) (by decide)) hk (fun _ h => h.2)) (fun _ h => h.1)) (KeepBut.trans (zJ2 HK.out GW125.out GW132.out) hk (.inl rfl)) (hb) (hi) ?_
                    clear BK125 BK132 HO141 HK HB HI0
                    intro BK125 BK132 HO141 HK HB HI0
                    (try clear hb)
                    (try clear hb2)
                    (try clear hk)
                    (try clear hi)
                    refine hK.out _ _ ⟨(blk_cell BK132.out 0).trans rfl, (blk_cell BK132.out 1).trans rfl, (blk_cell BK132.out 2).trans rfl, (blk_cell BK132.out 3).trans rfl, HS4_⟩ (fun hHeld => ?_)
                    clear hK K
                    refine zW (some 59) ?_
                    refine zP HT_ 8 (some 60) rfl rfl ?_
                    refine zT HT_ HW_ hHeld 9 (some 61) rfl rfl ?_
                    refine one_ (i := 10) (N := some 62) #[true, true, true, true, true, true, true, true, true, true, true, false] rfl rfl (one_of HT_.out (by kernel_rfl)) (by decide) (fun K hK => ?_)
                    refine goes_ Tryz.func43 (by kernel_rfl) rfl #[.agg #[.int .i64 x133000_2, .int .i64 x133001_2, .int .i64 x133002_2, .int .i64 x133003_2], .int .i64 (Int.tmod x10_2 2), .int .i64 (rd t139 t142)] (by rfl) rfl rfl zM ?_
                    with_reducible refine (spec_l05Move.calls x133000_2 x133001_2 x133002_2 x133003_2 (Int.tmod x10_2 2) (rd t139 t142) t146 t147 t148 t149 _ A33.out).mono ?_
                    rintro e w41 ⟨rfl, hb⟩
                    have HS4_ := (hb.cell (World.block_lt_of_cell? _ _ (hHeld.2.2.2.2))).trans (hHeld.2.2.2.2)
                    refine ⟨_, rfl, ?_⟩
                    refine zA6 (Kd.R_below (zR HO141.out) hb) (zY BK125.out hb) (zY BK132.out hb) (IsS85.below (zI2 HI0.out NB0_125.out NB0_132.out) hb) (KeepBut.trans (zJ2 HK.out GW125.out GW132.out) (KeepBut.of_below hb g none) (.inl rfl)) (below_step (zH3 HB.out (IsS85.ge HI0.out) GE125.out GE132.out) hb) ?_
                    clear HO141 BK125 BK132 HI0 HK HB
                    intro HO141 BK125 BK132 HI0 HK HB
                    (try clear hb)
                    (try clear hb2)
                    (try clear hk)
                    (try clear hi)
                    refine hK.out _ _ ⟨(blk_cell BK132.out 0).trans rfl, (blk_cell BK132.out 1).trans rfl, (blk_cell BK132.out 2).trans rfl, (blk_cell BK132.out 3).trans rfl, HS4_⟩ (fun hHeld => ?_)
                    clear hK K
                    refine zW (some 62) ?_
                    refine last_ (i := 11) (N := none) #[true, true, true, true, true, true, true, true, true, true, true, true] rfl rfl (one_of HT_.out (by kernel_rfl)) (by decide) (fun K hK => ?_)
                    have hs42 : w41.cell? ⟨gb132, 0, none⟩ = some (.int .i64 x133000_2) := (blk_cell BK132.out 0).trans rfl
                    have hfs42 := blk_frozen BK132.out 0
                    have hns42_0 := NB125_132.out
                    have hms42_0 := NB132_125.out
                    have hs43 : w41.cell? ⟨gb132, 1, none⟩ = some (.int .i64 x133001_2) := (blk_cell BK132.out 1).trans rfl
                    have hfs43 := blk_frozen BK132.out 1
                    have hns43_0 := NB125_132.out
                    have hms43_0 := NB132_125.out
                    have hs44 : w41.cell? ⟨gb132, 2, none⟩ = some (.int .i64 x133002_2) := (blk_cell BK132.out 2).trans rfl
                    have hfs44 := blk_frozen BK132.out 2
                    have hns44_0 := NB125_132.out
                    have hms44_0 := NB132_125.out
                    have hs45 : w41.cell? ⟨gb132, 3, none⟩ = some (.int .i64 x133003_2) := (blk_cell BK132.out 3).trans rfl
                    have hfs45 := blk_frozen BK132.out 3
                    have hns45_0 := NB125_132.out
                    have hms45_0 := NB132_125.out
                    refine skip_ (w1 := ?_) (by rfl) rfl ?_ ?_
                    rotate_left
                    · go_simp
                      rfl
                    refine hK.out _ _ ?_
                    clear hK K
                    refine done_ (done_of HT_.out (by kernel_rfl)) ?_
                    try go_wp2
                    go_roundg k2
                    case measure => have := HK1.out; have := HK2.out; omega
                    case rel => exact ⟨(wrap64 (x10_2 - 1)), (t143), (t144), (t146), (t147), (t148), (t149), (zF), H', ⟨by have := HK1.out; have := HK2.out; omega⟩, ⟨zQ1 BK125.out NB125_132.out⟩, ⟨zQ BK132.out⟩, ⟨zI2 HI0.out NB0_125.out NB0_132.out⟩, ⟨zJ2 HK.out GW125.out GW132.out⟩, ⟨zH3 HB.out (IsS85.ge HI0.out) GE125.out GE132.out⟩⟩
                  · rw [if_neg c32] at H
                    exact absurd H (by simp)
                · rw [if_neg c31] at H
                  exact absurd H (by simp)
              · rw [if_neg c29] at H
                have c29b0 := decide_eq_false c29
                have c29b1 : decide (0 < t139.length) = false := decide_eq_false (by omega)
                clear c29
                have H' := Aside0.mk H
                clear H
                have hnb46 := NB132_125.out
                have hnc46 := NB125_132.out
                have hnb47 := NB132_0.out
                have hnc47 := NB0_132.out
                obtain ⟨hcz48_0, hcz48_1, hcz48_2, hcz48_3⟩ := zc4 BK132
                obtain ⟨hfz48_0, hfz48_1, hfz48_2, hfz48_3⟩ := zf4 BK132
                go_wp2_with (first | ((with_reducible refine gate_callee (f := 45) rfl ?_); refine goesL_ (some 48) rfl rfl Tryz.func45 (by kernel_rfl) rfl #[.agg #[.int .i64 x133000_2, .int .i64 x133001_2, .int .i64 x133002_2, .int .i64 x133003_2], .int .i64 a2, .int .i64 (Int.tmod x10_2 2)] rfl zM ?_; (with_reducible refine (spec_l05Points.calls k2 x133000_2 x133001_2 x133002_2 x133003_2 a2 (Int.tmod x10_2 2) t139 _ A28.out).mono ?_); rintro e w49 ⟨v140, rfl, ho0, hb⟩; refine ⟨_, rfl, ?_⟩; refine zA6 (Kd.R_lower ho0 (keep_size (w := w) (g := g) (row := none) (zJ2 HK.out GW125.out GW132.out))) (zY BK125.out hb) (zY BK132.out hb) (IsS85.below (zI2 HI0.out NB0_125.out NB0_132.out) hb) (KeepBut.trans (zJ2 HK.out GW125.out GW132.out) (KeepBut.of_below hb g none) (.inl rfl)) (below_step (zH3 HB.out (IsS85.ge HI0.out) GE125.out GE132.out) hb) ?_; clear BK125 BK132 HI0 HK HB; intro HO141 BK125 BK132 HI0 HK HB; (try clear hb); (try clear hb2); (try clear hk); (try clear hi); (try clear ho0); obtain ⟨Ao50, co50, eo50⟩ := Kd.R_slice HO141.out; subst eo50))
                go_roundg k2
                case measure => have := HK1.out; have := HK2.out; omega
                case rel => exact ⟨(wrap64 (x10_2 - 1)), (x1001_2), (x1002_2), (x133000_2), (x133001_2), (x133002_2), (x133003_2), (zF), H', ⟨by have := HK1.out; have := HK2.out; omega⟩, ⟨zB BK125.out⟩, ⟨zB BK132.out⟩, ⟨zI2 HI0.out NB0_125.out NB0_132.out⟩, ⟨zJ2 HK.out GW125.out GW132.out⟩, ⟨zH3 HB.out (IsS85.ge HI0.out) GE125.out GE132.out⟩⟩
            · rw [if_neg c27] at H
              have c27b0 := decide_eq_false c27
              clear c27
              obtain ⟨⟨t150, t151, t152⟩, A51, H⟩ := zb H; (try dsimp only at H)
              by_cases c52 : t150 = 0
              · rw [if_pos c52] at H
                have c52b0 := zq1 c52
                have c52b1 := zq2 c52
                clear c52
                obtain ⟨⟨t153, t154, t155⟩, A53, H⟩ := zb H; (try dsimp only at H)
                obtain ⟨ji54, hji54⟩ := zj (IntKind.u64.wrap (t153))
                (first | rw [hji54] at H | simp only [hji54] at H)
                (try rw [hji54] at A51)
                (try rw [hji54] at A53)
                by_cases c55 : 0 ≤ (ji54)
                · rw [if_pos c55] at H
                  have c55b0 := eq_true c55
                  have c55b1 := decide_eq_true c55
                  clear c55
                  obtain ⟨ji56, hji56⟩ := zj (shl .i64 1 (ji54))
                  (first | rw [hji56] at H | simp only [hji56] at H)
                  (try rw [hji56] at A51)
                  (try rw [hji56] at A53)
                  have hji56_ : (IntKind.i64.wrap (1 * 2 ^ min (ji54).toNat 64)) = ji56 := hji56
                  have hji56z : (ji54) ≤ 64 → (IntKind.i64.wrap (1 * 2 ^ (ji54).toNat)) = ji56 := shl_small hji56
                  have hji56u : (IntKind.i64.wrap (2 ^ min (ji54).toNat 64)) = ji56 := by have h_ := hji56_; rw [Int.one_mul] at h_; exact h_
                  have hji56v : (ji54) ≤ 64 → (IntKind.i64.wrap (2 ^ (ji54).toNat)) = ji56 := fun hle_ => by have h_ := hji56z hle_; rw [Int.one_mul] at h_; exact h_
                  have hji56y : (wrap64 (1 * 2 ^ min (ji54).toNat 64)) = ji56 := (i64_w _).symm.trans hji56_
                  have hji56x : (ji54) ≤ 64 → (wrap64 (1 * 2 ^ (ji54).toNat)) = ji56 := fun h_ => (i64_w _).symm.trans (hji56z h_)
                  have c57b0 := eq_true (of_decide_eq_true (by first | (with_reducible assumption) | assumption) : 0 ≤ (ji54))
                  simp only [Option.some.injEq, Prod.mk.injEq] at H
                  obtain ⟨rfl, rfl, rfl, rfl, rfl, rfl⟩ := H
                  go_wp2_with (first | ((with_reducible refine gate_callee (f := 58) rfl ?_); refine goesL_ (some 64) rfl rfl Tryz.func58 (by kernel_rfl) rfl #[.pointer (some ⟨g, 0, none⟩), .int .i64 10] rfl zM ?_; (with_reducible refine (spec_l01Next.calls g s0_0 x1001_2 x1002_2 10 t150 t151 t152 w0 _ ?side1 ?side2 A51.out).mono ?_); (case side1 => exact zI2 HI0.out NB0_125.out NB0_132.out); (case side2 => exact zH3 HB.out (IsS85.ge HI0.out) GE125.out GE132.out); rintro e w58 ⟨rfl, hi, hb, hk⟩; refine ⟨_, rfl, ?_⟩; refine zA5 (zYk hk BK125.out NB125_0.out) (zYk hk BK132.out NB132_0.out) (KeepBut.trans (zJ2 HK.out GW125.out GW132.out) hk (.inl rfl)) (hb) (hi) ?_; clear BK125 BK132 HK HB HI0; intro BK125 BK132 HK HB HI0; (try clear hb); (try clear hb2); (try clear hk); (try clear hi)) | ((with_reducible refine gate_callee (f := 58) rfl ?_); refine goesL_ (some 68) rfl rfl Tryz.func58 (by kernel_rfl) rfl #[.pointer (some ⟨g, 0, none⟩), .int .i64 a1] rfl zM ?_; (with_reducible refine (spec_l01Next.calls g s0_0 t151 t152 a1 t153 t154 t155 w0 _ ?side1 ?side2 A53.out).mono ?_); (case side1 => exact zI2 HI0.out NB0_125.out NB0_132.out); (case side2 => exact zH3 HB.out (IsS85.ge HI0.out) GE125.out GE132.out); rintro e w59 ⟨rfl, hi, hb, hk⟩; refine ⟨_, rfl, ?_⟩; refine zA5 (zYk hk BK125.out NB125_0.out) (zYk hk BK132.out NB132_0.out) (KeepBut.trans (zJ2 HK.out GW125.out GW132.out) hk (.inl rfl)) (hb) (hi) ?_; clear BK125 BK132 HK HB HI0; intro BK125 BK132 HK HB HI0; (try clear hb); (try clear hb2); (try clear hk); (try clear hi); have hnb60 := NB132_125.out; have hnc60 := NB125_132.out; have hnb61 := NB132_0.out; have hnc61 := NB0_132.out; obtain ⟨hcz62_0, hcz62_1, hcz62_2, hcz62_3⟩ := zc4 BK132; obtain ⟨hfz62_0, hfz62_1, hfz62_2, hfz62_3⟩ := zf4 BK132; have hnb63 := NB125_0.out; have hnc63 := NB0_125.out; obtain ⟨hcz64_0, hcz64_1, hcz64_2, hcz64_3⟩ := zc4 BK125; obtain ⟨hfz64_0, hfz64_1, hfz64_2, hfz64_3⟩ := zf4 BK125))
                  refine bodyPost_ret (results_cell_row rfl _ _ gb125 25 #[.int .i64 x133000_2, .int .i64 x133001_2, .int .i64 (Go.bits .andNot .i64 x133002_2 (ji56)), .int .i64 (Go.bits .or .i64 x133003_2 (ji56))] (0, 0) _ rfl (zQ1 BK125.out NB125_132.out) Tryz.underlying25 rfl (by kernel_rfl)) rfl ?_
                  exact ⟨by first | rfl | (simp [errW_none, errW_some] <;> rfl) | (simp only [← hji54, ← hji56]; first | rfl | (simp [errW_none, errW_some] <;> rfl)) | (simp [*, errW_none, errW_some] <;> rfl), zI2 HI0.out NB0_125.out NB0_132.out, zH3 HB.out (IsS85.ge HI0.out) GE125.out GE132.out, zJ2 HK.out GW125.out GW132.out⟩
                · rw [if_neg c55] at H
                  exact absurd H (by simp)
              · rw [if_neg c52] at H
                have c52b0 := zq3 c52
                have c52b1 := zq4 c52
                simp only [Option.some.injEq, Prod.mk.injEq] at H
                obtain ⟨rfl, rfl, rfl, rfl, rfl, rfl⟩ := H
                go_wp2_with (first | ((with_reducible refine gate_callee (f := 58) rfl ?_); refine goesL_ (some 64) rfl rfl Tryz.func58 (by kernel_rfl) rfl #[.pointer (some ⟨g, 0, none⟩), .int .i64 10] rfl zM ?_; (with_reducible refine (spec_l01Next.calls g s0_0 x1001_2 x1002_2 10 t150 t151 t152 w0 _ ?side1 ?side2 A51.out).mono ?_); (case side1 => exact zI2 HI0.out NB0_125.out NB0_132.out); (case side2 => exact zH3 HB.out (IsS85.ge HI0.out) GE125.out GE132.out); rintro e w65 ⟨rfl, hi, hb, hk⟩; refine ⟨_, rfl, ?_⟩; refine zA5 (zYk hk BK125.out NB125_0.out) (zYk hk BK132.out NB132_0.out) (KeepBut.trans (zJ2 HK.out GW125.out GW132.out) hk (.inl rfl)) (hb) (hi) ?_; clear BK125 BK132 HK HB HI0; intro BK125 BK132 HK HB HI0; (try clear hb); (try clear hb2); (try clear hk); (try clear hi); have hnb66 := NB132_125.out; have hnc66 := NB125_132.out; have hnb67 := NB132_0.out; have hnc67 := NB0_132.out; obtain ⟨hcz68_0, hcz68_1, hcz68_2, hcz68_3⟩ := zc4 BK132; obtain ⟨hfz68_0, hfz68_1, hfz68_2, hfz68_3⟩ := zf4 BK132; have hnb69 := NB125_0.out; have hnc69 := NB0_125.out; obtain ⟨hcz70_0, hcz70_1, hcz70_2, hcz70_3⟩ := zc4 BK125; obtain ⟨hfz70_0, hfz70_1, hfz70_2, hfz70_3⟩ := zf4 BK125))
                refine bodyPost_ret (results_cell_row rfl _ _ gb125 25 #[.int .i64 x133000_2, .int .i64 x133001_2, .int .i64 x133002_2, .int .i64 x133003_2] (0, 0) _ rfl (zQ BK125.out) Tryz.underlying25 rfl (by kernel_rfl)) rfl ?_
                exact ⟨zE, zI2 HI0.out NB0_125.out NB0_132.out, zH3 HB.out (IsS85.ge HI0.out) GE125.out GE132.out, zJ2 HK.out GW125.out GW132.out⟩

/-! ### spec_l05Union: function 59 -/
mutual
def spec_l05Union.l0 : Nat → Int → Int → Int → Int → Int → Int → Int → Int → Int → Int → Int → Int → Int → Option (Int × Int × Int × Int)
  | 0, _, _, _, _, _, _, _, _, _, _, _, _, _ => none
  | k + 1, x6, x157000, x157001, x157002, x157003, x158000, x158001, x158002, x158003, x160000, x160001, x160002, x160003 => if x6 < x158000 then (spec_l05Union.l1 k x6 0 x157000 x157001 x157002 x157003 x158000 x158001 x158002 x158003 x160000 x160001 x160002 x160003) else (some (x160000, x160001, x160002, x160003))
def spec_l05Union.l1 : Nat → Int → Int → Int → Int → Int → Int → Int → Int → Int → Int → Int → Int → Int → Int → Option (Int × Int × Int × Int)
  | 0, _, _, _, _, _, _, _, _, _, _, _, _, _, _ => none
  | k + 1, x6, x7, x157000, x157001, x157002, x157003, x158000, x158001, x158002, x158003, x160000, x160001, x160002, x160003 => if x7 < x6 then ((spec_l05Joined.f x158000 x158001 x158002 x158003 x7 x6).bind fun t160 => (if t160 = true then (if 0 ≤ (IntKind.u64.wrap (wrap64 ((wrap64 ((wrap64 (Int.tdiv (wrap64 ((wrap64 (x6 + x157000)) * (wrap64 ((wrap64 (x6 + x157000)) - 1)))) 2)) + x7)) + x157000))) then (spec_l05Union.l1 k x6 (wrap64 (x7 + 1)) x157000 x157001 x157002 x157003 x158000 x158001 x158002 x158003 x160000 (Go.bits .or .i64 x160001 (shl .i64 1 (IntKind.u64.wrap (wrap64 ((wrap64 ((wrap64 (Int.tdiv (wrap64 ((wrap64 (x6 + x157000)) * (wrap64 ((wrap64 (x6 + x157000)) - 1)))) 2)) + x7)) + x157000))))) x160002 x160003) else (none)) else (spec_l05Union.l1 k x6 (wrap64 (x7 + 1)) x157000 x157001 x157002 x157003 x158000 x158001 x158002 x158003 x160000 x160001 x160002 x160003))) else (spec_l05Union.l0 k (wrap64 (x6 + 1)) x157000 x157001 x157002 x157003 x158000 x158001 x158002 x158003 x160000 x160001 x160002 x160003)
end
def spec_l05Union.f (k : Nat) (a0_0 : Int) (a0_1 : Int) (a0_2 : Int) (a0_3 : Int) (a1_0 : Int) (a1_1 : Int) (a1_2 : Int) (a1_3 : Int) : Option (Int × Int × Int × Int) := if 0 ≤ (IntKind.u64.wrap (a0_0)) then (spec_l05Union.l0 k 1 a0_0 a0_1 a0_2 a0_3 a1_0 a1_1 a1_2 a1_3 (wrap64 (a0_0 + a1_0)) a0_1 (Go.bits .or .i64 a0_2 (shl .i64 a1_2 (IntKind.u64.wrap (a0_0)))) (Go.bits .or .i64 a0_3 (shl .i64 a1_3 (IntKind.u64.wrap (a0_0))))) else (none)
set_option maxHeartbeats 8000000 in
set_option maxRecDepth 100000 in
theorem spec_l05Union.calls (k : Nat) (a0_0 : Int) (a0_1 : Int) (a0_2 : Int) (a0_3 : Int) (a1_0 : Int) (a1_1 : Int) (a1_2 : Int) (a1_3 : Int) (r1 : Int) (r2 : Int) (r3 : Int) (r4 : Int) (w : World) (h : spec_l05Union.f k a0_0 a0_1 a0_2 a0_3 a1_0 a1_1 a1_2 a1_3 = some (r1, r2, r3, r4)) :
    Calls Tryz.prog 59 #[.agg #[.int .i64 a0_0, .int .i64 a0_1, .int .i64 a0_2, .int .i64 a0_3], .agg #[.int .i64 a1_0, .int .i64 a1_1, .int .i64 a1_2, .int .i64 a1_3]] w fun e w' => e = .returned (.agg #[.int .i64 r1, .int .i64 r2, .int .i64 r3, .int .i64 r4]) ∧ Below w.heap.size w w' := by
  have hu25 := Tryz.underlying25
  have HB := Aside0.mk (Below.refl w.heap.size w)
  have H : (if 0 ≤ (IntKind.u64.wrap (a0_0)) then (spec_l05Union.l0 k 1 a0_0 a0_1 a0_2 a0_3 a1_0 a1_1 a1_2 a1_3 (wrap64 (a0_0 + a1_0)) a0_1 (Go.bits .or .i64 a0_2 (shl .i64 a1_2 (IntKind.u64.wrap (a0_0)))) (Go.bits .or .i64 a0_3 (shl .i64 a1_3 (IntKind.u64.wrap (a0_0))))) else (none)) = some (r1, r2, r3, r4) := h
  clear h
  obtain ⟨ji3, hji3⟩ := zj (IntKind.u64.wrap (a0_0))
  (first | rw [hji3] at H | simp only [hji3] at H)
  by_cases c4 : 0 ≤ (ji3)
  · rw [if_pos c4] at H
    have c4b0 := eq_true c4
    have c4b1 := decide_eq_true c4
    clear c4
    obtain ⟨ji5, hji5⟩ := zj (shl .i64 a1_2 (ji3))
    (first | rw [hji5] at H | simp only [hji5] at H)
    have hji5_ : (IntKind.i64.wrap (a1_2 * 2 ^ min (ji3).toNat 64)) = ji5 := hji5
    have hji5z : (ji3) ≤ 64 → (IntKind.i64.wrap (a1_2 * 2 ^ (ji3).toNat)) = ji5 := shl_small hji5
    have hji5y : (wrap64 (a1_2 * 2 ^ min (ji3).toNat 64)) = ji5 := (i64_w _).symm.trans hji5_
    have hji5x : (ji3) ≤ 64 → (wrap64 (a1_2 * 2 ^ (ji3).toNat)) = ji5 := fun h_ => (i64_w _).symm.trans (hji5z h_)
    have c6b0 := eq_true (of_decide_eq_true (by first | (with_reducible assumption) | assumption) : 0 ≤ (ji3))
    obtain ⟨ji7, hji7⟩ := zj (shl .i64 a1_3 (ji3))
    (first | rw [hji7] at H | simp only [hji7] at H)
    have hji7_ : (IntKind.i64.wrap (a1_3 * 2 ^ min (ji3).toNat 64)) = ji7 := hji7
    have hji7z : (ji3) ≤ 64 → (IntKind.i64.wrap (a1_3 * 2 ^ (ji3).toNat)) = ji7 := shl_small hji7
    have hji7y : (wrap64 (a1_3 * 2 ^ min (ji3).toNat 64)) = ji7 := (i64_w _).symm.trans hji7_
    have hji7x : (ji3) ≤ 64 → (wrap64 (a1_3 * 2 ^ (ji3).toNat)) = ji7 := fun h_ => (i64_w _).symm.trans (hji7z h_)
    have H' := Aside0.mk H
    clear H
    go_enter Tryz.func59, Tryz.ntmps59
    go_wp2_with (first | ((with_reducible refine gate_dst (N := 2) rfl ?_); refine zX 2 #[.int .i64 a0_0, .int .i64 a0_1, .int .i64 a0_2, .int .i64 a0_3] 25 ?_; intro gb156 hg w8 hbox hb; refine zA4 (below_step (zH HB.out) hb) (hbox) ((zS hg (below_size (zH HB.out)) : w.heap.size ≤ gb156)) ((zS hg (below_size (zH HB.out)) : w.heap.size ≤ gb156)) ?_; clear HB; intro HB BK156 GW156 GE156; clear hb hbox hg) | ((with_reducible refine gate_dst (N := 3) rfl ?_); refine zX 3 #[.int .i64 a1_0, .int .i64 a1_1, .int .i64 a1_2, .int .i64 a1_3] 25 ?_; intro gb157 hg w9 hbox hb; refine zA7 (zY BK156.out hb) (below_step (zH1 HB.out GE156.out) hb) (hbox) ((zS hg (below_size (zH1 HB.out GE156.out)) : w.heap.size ≤ gb157)) ((zS hg (below_size (zH1 HB.out GE156.out)) : w.heap.size ≤ gb157)) ((zl hg (blk_lt (g := gb156) (o := .cells #[.int .i64 a0_0, .int .i64 a0_1, .int .i64 a0_2, .int .i64 a0_3] 25 (0, 0)) (zB BK156.out)) : gb156 ≠ gb157)) ((zg hg (blk_lt (g := gb156) (o := .cells #[.int .i64 a0_0, .int .i64 a0_1, .int .i64 a0_2, .int .i64 a0_3] 25 (0, 0)) (zB BK156.out)) : gb157 ≠ gb156)) ?_; clear BK156 HB; intro BK156 HB BK157 GW157 GE157 NB156_157 NB157_156; clear hb hbox hg) | ((with_reducible refine gate_dst (N := 4) rfl ?_); refine zX 4 #[.int .i64 0, .int .i64 0, .int .i64 0, .int .i64 0] 25 ?_; intro gb158 hg w10 hbox hb; refine zA10 (zY BK156.out hb) (zY BK157.out hb) (below_step (zH2 HB.out GE156.out GE157.out) hb) (hbox) ((zS hg (below_size (zH2 HB.out GE156.out GE157.out)) : w.heap.size ≤ gb158)) ((zS hg (below_size (zH2 HB.out GE156.out GE157.out)) : w.heap.size ≤ gb158)) ((zl hg (blk_lt (g := gb156) (o := .cells #[.int .i64 a0_0, .int .i64 a0_1, .int .i64 a0_2, .int .i64 a0_3] 25 (0, 0)) (zB BK156.out)) : gb156 ≠ gb158)) ((zg hg (blk_lt (g := gb156) (o := .cells #[.int .i64 a0_0, .int .i64 a0_1, .int .i64 a0_2, .int .i64 a0_3] 25 (0, 0)) (zB BK156.out)) : gb158 ≠ gb156)) ((zl hg (blk_lt (g := gb157) (o := .cells #[.int .i64 a1_0, .int .i64 a1_1, .int .i64 a1_2, .int .i64 a1_3] 25 (0, 0)) (zB BK157.out)) : gb157 ≠ gb158)) ((zg hg (blk_lt (g := gb157) (o := .cells #[.int .i64 a1_0, .int .i64 a1_1, .int .i64 a1_2, .int .i64 a1_3] 25 (0, 0)) (zB BK157.out)) : gb158 ≠ gb157)) ?_; clear BK156 BK157 HB; intro BK156 BK157 HB BK158 GW158 GE158 NB156_158 NB158_156 NB157_158 NB158_157; clear hb hbox hg; have hnb11 := NB156_157.out; have hnc11 := NB157_156.out; have hnb12 := NB156_158.out; have hnc12 := NB158_156.out; obtain ⟨hcz13_0, hcz13_1, hcz13_2, hcz13_3⟩ := zc4 BK156; obtain ⟨hfz13_0, hfz13_1, hfz13_2, hfz13_3⟩ := zf4 BK156; have hnb14 := NB157_158.out; have hnc14 := NB158_157.out; obtain ⟨hcz15_0, hcz15_1, hcz15_2, hcz15_3⟩ := zc4 BK157; obtain ⟨hfz15_0, hfz15_1, hfz15_2, hfz15_3⟩ := zf4 BK157) | ((with_reducible refine gate_dst (N := 5) rfl ?_); refine zX 5 #[.int .i64 0, .int .i64 0, .int .i64 0, .int .i64 0] 25 ?_; intro gb159 hg w16 hbox hb; refine zA13 (zY BK156.out hb) (zY BK157.out hb) (zY BK158.out hb) (below_step (zH3 HB.out GE156.out GE157.out GE158.out) hb) (hbox) ((zS hg (below_size (zH3 HB.out GE156.out GE157.out GE158.out)) : w.heap.size ≤ gb159)) ((zS hg (below_size (zH3 HB.out GE156.out GE157.out GE158.out)) : w.heap.size ≤ gb159)) ((zl hg (blk_lt (g := gb156) (o := .cells #[.int .i64 a0_0, .int .i64 a0_1, .int .i64 a0_2, .int .i64 a0_3] 25 (0, 0)) (zB BK156.out)) : gb156 ≠ gb159)) ((zg hg (blk_lt (g := gb156) (o := .cells #[.int .i64 a0_0, .int .i64 a0_1, .int .i64 a0_2, .int .i64 a0_3] 25 (0, 0)) (zB BK156.out)) : gb159 ≠ gb156)) ((zl hg (blk_lt (g := gb157) (o := .cells #[.int .i64 a1_0, .int .i64 a1_1, .int .i64 a1_2, .int .i64 a1_3] 25 (0, 0)) (zB BK157.out)) : gb157 ≠ gb159)) ((zg hg (blk_lt (g := gb157) (o := .cells #[.int .i64 a1_0, .int .i64 a1_1, .int .i64 a1_2, .int .i64 a1_3] 25 (0, 0)) (zB BK157.out)) : gb159 ≠ gb157)) ((zl hg (blk_lt (g := gb158) (o := .cells #[.int .i64 0, .int .i64 0, .int .i64 0, .int .i64 0] 25 (0, 0)) (zB BK158.out)) : gb158 ≠ gb159)) ((zg hg (blk_lt (g := gb158) (o := .cells #[.int .i64 0, .int .i64 0, .int .i64 0, .int .i64 0] 25 (0, 0)) (zB BK158.out)) : gb159 ≠ gb158)) ?_; clear BK156 BK157 BK158 HB; intro BK156 BK157 BK158 HB BK159 GW159 GE159 NB156_159 NB159_156 NB157_159 NB159_157 NB158_159 NB159_158; clear hb hbox hg; have hnb17 := NB159_156.out; have hnc17 := NB156_159.out; have hnb18 := NB159_157.out; have hnc18 := NB157_159.out; have hnb19 := NB159_158.out; have hnc19 := NB158_159.out; obtain ⟨hcz20_0, hcz20_1, hcz20_2, hcz20_3⟩ := zc4 BK159; obtain ⟨hfz20_0, hfz20_1, hfz20_2, hfz20_3⟩ := zf4 BK159))
    go_loopg [6] k (fun kq v6 w' => ∃ (x6_1 : Int) (x160001_1 : Int), v6 = .int .i64 x6_1 ∧ Aside0 (spec_l05Union.l0 kq x6_1 a0_0 a0_1 a0_2 a0_3 a1_0 a1_1 a1_2 a1_3 (wrap64 (a0_0 + a1_0)) x160001_1 (Go.bits .or .i64 a0_2 (ji5)) (Go.bits .or .i64 a0_3 (ji7)) = some (r1, r2, r3, r4)) ∧ Aside0 (kq ≤ k) ∧ Aside0 (w'.heap[gb156]? = some (.cells #[.int .i64 a0_0, .int .i64 a0_1, .int .i64 a0_2, .int .i64 a0_3] 25 (0, 0))) ∧ Aside0 (w'.heap[gb157]? = some (.cells #[.int .i64 a1_0, .int .i64 a1_1, .int .i64 a1_2, .int .i64 a1_3] 25 (0, 0))) ∧ Aside0 (w'.heap[gb158]? = some (.cells #[.int .i64 0, .int .i64 0, .int .i64 0, .int .i64 0] 25 (0, 0))) ∧ Aside0 (w'.heap[gb159]? = some (.cells #[.int .i64 (wrap64 (a0_0 + a1_0)), .int .i64 x160001_1, .int .i64 (Go.bits .or .i64 a0_2 (ji5)), .int .i64 (Go.bits .or .i64 a0_3 (ji7))] 25 (0, 0))) ∧ Aside0 (Below w.heap.size w w'))
    case atStart => exact ⟨(1), (a0_1), (zF), H', ⟨Nat.le_refl _⟩, ⟨zQ1 BK156.out NB156_159.out⟩, ⟨zQ1 BK157.out NB157_159.out⟩, ⟨zQ1 BK158.out NB158_159.out⟩, ⟨zQ BK159.out⟩, ⟨zH4 HB.out GE156.out GE157.out GE158.out GE159.out⟩⟩
    case round =>
      clear H'
      try clear c1
      try clear p2
      try clear c4
      try clear c4b0
      try clear c4b1
      try clear c5
      try clear c6
      try clear c6b0
      try clear p6
      try clear c11
      try clear c12
      try clear c14
      try clear c17
      try clear c18
      try clear c19
      try clear hcz13_0
      try clear hcz13_1
      try clear hcz13_2
      try clear hcz13_3
      try clear hcz15_0
      try clear hcz15_1
      try clear hcz15_2
      try clear hcz15_3
      try clear hcz20_0
      try clear hcz20_1
      try clear hcz20_2
      try clear hcz20_3
      try clear hfz13_0
      try clear hfz13_1
      try clear hfz13_2
      try clear hfz13_3
      try clear hfz15_0
      try clear hfz15_1
      try clear hfz15_2
      try clear hfz15_3
      try clear hfz20_0
      try clear hfz20_1
      try clear hfz20_2
      try clear hfz20_3
      obtain ⟨x6_1, x160001_1, rfl, HA, HK1, BK156, BK157, BK158, BK159, HB⟩ := hrel
      cases gk with
      | zero => exact absurd HA.out (by simp [spec_l05Union.l0])
      | succ k1 =>
        have H := HA.out
        clear HA
        simp only [spec_l05Union.l0] at H
        by_cases c21 : x6_1 < a1_0
        · rw [if_pos c21] at H
          have c21b0 := decide_eq_true c21
          clear c21
          have H' := Aside0.mk H
          clear H
          have hnb22 := NB157_156.out
          have hnc22 := NB156_157.out
          have hnb23 := NB157_158.out
          have hnc23 := NB158_157.out
          have hnb24 := NB157_159.out
          have hnc24 := NB159_157.out
          obtain ⟨hcz25_0, hcz25_1, hcz25_2, hcz25_3⟩ := zc4 BK157
          obtain ⟨hfz25_0, hfz25_1, hfz25_2, hfz25_3⟩ := zf4 BK157
          go_wp2
          go_loopg [7] k1 (fun kq v7 w' => ∃ (x7_2 : Int) (x160001_2 : Int), v7 = .int .i64 x7_2 ∧ Aside0 (spec_l05Union.l1 kq x6_1 x7_2 a0_0 a0_1 a0_2 a0_3 a1_0 a1_1 a1_2 a1_3 (wrap64 (a0_0 + a1_0)) x160001_2 (Go.bits .or .i64 a0_2 (ji5)) (Go.bits .or .i64 a0_3 (ji7)) = some (r1, r2, r3, r4)) ∧ Aside0 (kq ≤ k1) ∧ Aside0 (w'.heap[gb156]? = some (.cells #[.int .i64 a0_0, .int .i64 a0_1, .int .i64 a0_2, .int .i64 a0_3] 25 (0, 0))) ∧ Aside0 (w'.heap[gb157]? = some (.cells #[.int .i64 a1_0, .int .i64 a1_1, .int .i64 a1_2, .int .i64 a1_3] 25 (0, 0))) ∧ Aside0 (w'.heap[gb158]? = some (.cells #[.int .i64 0, .int .i64 0, .int .i64 0, .int .i64 0] 25 (0, 0))) ∧ Aside0 (w'.heap[gb159]? = some (.cells #[.int .i64 (wrap64 (a0_0 + a1_0)), .int .i64 x160001_2, .int .i64 (Go.bits .or .i64 a0_2 (ji5)), .int .i64 (Go.bits .or .i64 a0_3 (ji7))] 25 (0, 0))) ∧ Aside0 (Below w.heap.size w w'))
          case atStart => exact ⟨(0), (x160001_1), (zF), H', ⟨Nat.le_refl _⟩, ⟨zB BK156.out⟩, ⟨zB BK157.out⟩, ⟨zB BK158.out⟩, ⟨zB BK159.out⟩, ⟨zH4 HB.out GE156.out GE157.out GE158.out GE159.out⟩⟩
          case round =>
            clear H'
            try clear c1
            try clear c2
            try clear p2
            try clear c4
            try clear c4b0
            try clear c4b1
            try clear c5
            try clear c6
            try clear c6b0
            try clear p6
            try clear c11
            try clear c12
            try clear c14
            try clear c17
            try clear c18
            try clear c19
            try clear c21
            try clear c21b0
            try clear c22
            try clear c23
            try clear c24
            try clear hcz13_0
            try clear hcz13_1
            try clear hcz13_2
            try clear hcz13_3
            try clear hcz15_0
            try clear hcz15_1
            try clear hcz15_2
            try clear hcz15_3
            try clear hcz20_0
            try clear hcz20_1
            try clear hcz20_2
            try clear hcz20_3
            try clear hcz25_0
            try clear hcz25_1
            try clear hcz25_2
            try clear hcz25_3
            try clear hfz13_0
            try clear hfz13_1
            try clear hfz13_2
            try clear hfz13_3
            try clear hfz15_0
            try clear hfz15_1
            try clear hfz15_2
            try clear hfz15_3
            try clear hfz20_0
            try clear hfz20_1
            try clear hfz20_2
            try clear hfz20_3
            try clear hfz25_0
            try clear hfz25_1
            try clear hfz25_2
            try clear hfz25_3
            try clear p2
            try clear p6
            obtain ⟨x7_2, x160001_2, rfl, HA, HK2, BK156, BK157, BK158, BK159, HB⟩ := hrel
            cases gk with
            | zero => exact absurd HA.out (by simp [spec_l05Union.l1])
            | succ k2 =>
              have H := HA.out
              clear HA
              simp only [spec_l05Union.l1] at H
              by_cases c26 : x7_2 < x6_1
              · rw [if_pos c26] at H
                have c26b0 := decide_eq_true c26
                clear c26
                obtain ⟨t160, A27, H⟩ := zb H
                by_cases c28 : t160 = true
                · subst c28
                  have H1 : (if 0 ≤ (IntKind.u64.wrap (wrap64 ((wrap64 ((wrap64 (Int.tdiv (wrap64 ((wrap64 (x6_1 + a0_0)) * (wrap64 ((wrap64 (x6_1 + a0_0)) - 1)))) 2)) + x7_2)) + a0_0))) then (spec_l05Union.l1 k2 x6_1 (wrap64 (x7_2 + 1)) a0_0 a0_1 a0_2 a0_3 a1_0 a1_1 a1_2 a1_3 (wrap64 (a0_0 + a1_0)) (Go.bits .or .i64 x160001_2 (shl .i64 1 (IntKind.u64.wrap (wrap64 ((wrap64 ((wrap64 (Int.tdiv (wrap64 ((wrap64 (x6_1 + a0_0)) * (wrap64 ((wrap64 (x6_1 + a0_0)) - 1)))) 2)) + x7_2)) + a0_0))))) (Go.bits .or .i64 a0_2 (ji5)) (Go.bits .or .i64 a0_3 (ji7))) else (none)) = some (r1, r2, r3, r4) := by rw [if_pos rfl] at H; exact H
                  clear H
                  have H := H1
                  clear H1
                  obtain ⟨ji29, hji29⟩ := zj (IntKind.u64.wrap (wrap64 ((wrap64 ((wrap64 (Int.tdiv (wrap64 ((wrap64 (x6_1 + a0_0)) * (wrap64 ((wrap64 (x6_1 + a0_0)) - 1)))) 2)) + x7_2)) + a0_0)))
                  (first | rw [hji29] at H | simp only [hji29] at H)
                  (try rw [hji29] at A27)
                  by_cases c30 : 0 ≤ (ji29)
                  · rw [if_pos c30] at H
                    have c30b0 := eq_true c30
                    have c30b1 := decide_eq_true c30
                    clear c30
                    obtain ⟨ji31, hji31⟩ := zj (shl .i64 1 (ji29))
                    (first | rw [hji31] at H | simp only [hji31] at H)
                    (try rw [hji31] at A27)
                    have hji31_ : (IntKind.i64.wrap (1 * 2 ^ min (ji29).toNat 64)) = ji31 := hji31
                    have hji31z : (ji29) ≤ 64 → (IntKind.i64.wrap (1 * 2 ^ (ji29).toNat)) = ji31 := shl_small hji31
                    have hji31u : (IntKind.i64.wrap (2 ^ min (ji29).toNat 64)) = ji31 := by have h_ := hji31_; rw [Int.one_mul] at h_; exact h_
                    have hji31v : (ji29) ≤ 64 → (IntKind.i64.wrap (2 ^ (ji29).toNat)) = ji31 := fun hle_ => by have h_ := hji31z hle_; rw [Int.one_mul] at h_; exact h_
                    have hji31y : (wrap64 (1 * 2 ^ min (ji29).toNat 64)) = ji31 := (i64_w _).symm.trans hji31_
                    have hji31x : (ji29) ≤ 64 → (wrap64 (1 * 2 ^ (ji29).toNat)) = ji31 := fun h_ => (i64_w _).symm.trans (hji31z h_)
                    have H' := Aside0.mk H
                    clear H
                    have hnb32 := NB157_156.out
                    have hnc32 := NB156_157.out
                    have hnb33 := NB157_158.out
                    have hnc33 := NB158_157.out
                    have hnb34 := NB157_159.out
                    have hnc34 := NB159_157.out
                    obtain ⟨hcz35_0, hcz35_1, hcz35_2, hcz35_3⟩ := zc4 BK157
                    obtain ⟨hfz35_0, hfz35_1, hfz35_2, hfz35_3⟩ := zf4 BK157
                    go_wp2_with (first | ((with_reducible refine gate_callee (f := 62) rfl ?_); refine goesL_ (some 49) rfl rfl Tryz.func62 (by kernel_rfl) rfl #[.agg #[.int .i64 a1_0, .int .i64 a1_1, .int .i64 a1_2, .int .i64 a1_3], .int .i64 x7_2, .int .i64 x6_1] rfl zM ?_; (with_reducible refine (spec_l05Joined.calls a1_0 a1_1 a1_2 a1_3 x7_2 x6_1 true _ A27.out).mono ?_); rintro e w36 ⟨rfl, hb⟩; refine ⟨_, rfl, ?_⟩; refine zA5 (zY BK156.out hb) (zY BK157.out hb) (zY BK158.out hb) (zY BK159.out hb) (below_step (zH4 HB.out GE156.out GE157.out GE158.out GE159.out) hb) ?_; clear BK156 BK157 BK158 BK159 HB; intro BK156 BK157 BK158 BK159 HB; (try clear hb); (try clear hb2); (try clear hk); (try clear hi); have hnb37 := NB156_158.out; have hnc37 := NB158_156.out; have hnb38 := NB156_159.out; have hnc38 := NB159_156.out; obtain ⟨hcz39_0, hcz39_1, hcz39_2, hcz39_3⟩ := zc4 BK156; obtain ⟨hfz39_0, hfz39_1, hfz39_2, hfz39_3⟩ := zf4 BK156; have hnb40 := NB159_158.out; have hnc40 := NB158_159.out; obtain ⟨hcz41_0, hcz41_1, hcz41_2, hcz41_3⟩ := zc4 BK159; obtain ⟨hfz41_0, hfz41_1, hfz41_2, hfz41_3⟩ := zf4 BK159))
                    go_roundg k2
                    case measure => have := HK1.out; have := HK2.out; omega
                    case rel => exact ⟨(wrap64 (x7_2 + 1)), (Go.bits .or .i64 x160001_2 (ji31)), (zF), H', ⟨by have := HK1.out; have := HK2.out; omega⟩, ⟨zQ1 BK156.out NB156_159.out⟩, ⟨zQ1 BK157.out NB157_159.out⟩, ⟨zQ1 BK158.out NB158_159.out⟩, ⟨zQ BK159.out⟩, ⟨zH4 HB.out GE156.out GE157.out GE158.out GE159.out⟩⟩
                  · rw [if_neg c30] at H
                    exact absurd H (by simp)
                · replace c28 := Bool.eq_false_iff.mpr c28
                  subst c28
                  have H1 : (spec_l05Union.l1 k2 x6_1 (wrap64 (x7_2 + 1)) a0_0 a0_1 a0_2 a0_3 a1_0 a1_1 a1_2 a1_3 (wrap64 (a0_0 + a1_0)) x160001_2 (Go.bits .or .i64 a0_2 (ji5)) (Go.bits .or .i64 a0_3 (ji7))) = some (r1, r2, r3, r4) := by rw [if_neg (show ¬ (false = true) by decide)] at H; exact H
                  clear H
                  have H := H1
                  clear H1
                  have H' := Aside0.mk H
                  clear H
                  have hnb42 := NB157_156.out
                  have hnc42 := NB156_157.out
                  have hnb43 := NB157_158.out
                  have hnc43 := NB158_157.out
                  have hnb44 := NB157_159.out
                  have hnc44 := NB159_157.out
                  obtain ⟨hcz45_0, hcz45_1, hcz45_2, hcz45_3⟩ := zc4 BK157
                  obtain ⟨hfz45_0, hfz45_1, hfz45_2, hfz45_3⟩ := zf4 BK157
                  go_wp2_with (first | ((with_reducible refine gate_callee (f := 62) rfl ?_); refine goesL_ (some 49) rfl rfl Tryz.func62 (by kernel_rfl) rfl #[.agg #[.int .i64 a1_0, .int .i64 a1_1, .int .i64 a1_2, .int .i64 a1_3], .int .i64 x7_2, .int .i64 x6_1] rfl zM ?_; (with_reducible refine (spec_l05Joined.calls a1_0 a1_1 a1_2 a1_3 x7_2 x6_1 false _ A27.out).mono ?_); rintro e w46 ⟨rfl, hb⟩; refine ⟨_, rfl, ?_⟩; refine zA5 (zY BK156.out hb) (zY BK157.out hb) (zY BK158.out hb) (zY BK159.out hb) (below_step (zH4 HB.out GE156.out GE157.out GE158.out GE159.out) hb) ?_; clear BK156 BK157 BK158 BK159 HB; intro BK156 BK157 BK158 BK159 HB; (try clear hb); (try clear hb2); (try clear hk); (try clear hi)))
                  go_roundg k2
                  case measure => have := HK1.out; have := HK2.out; omega
                  case rel => exact ⟨(wrap64 (x7_2 + 1)), (x160001_2), (zF), H', ⟨by have := HK1.out; have := HK2.out; omega⟩, ⟨zB BK156.out⟩, ⟨zB BK157.out⟩, ⟨zB BK158.out⟩, ⟨zB BK159.out⟩, ⟨zH4 HB.out GE156.out GE157.out GE158.out GE159.out⟩⟩
              · rw [if_neg c26] at H
                have c26b0 := decide_eq_false c26
                clear c26
                have H' := Aside0.mk H
                clear H
                go_wp2
                go_roundg k2
                case measure => have := HK1.out; have := HK2.out; omega
                case rel => exact ⟨(wrap64 (x6_1 + 1)), (x160001_2), (zF), H', ⟨by have := HK1.out; have := HK2.out; omega⟩, ⟨zB BK156.out⟩, ⟨zB BK157.out⟩, ⟨zB BK158.out⟩, ⟨zB BK159.out⟩, ⟨zH4 HB.out GE156.out GE157.out GE158.out GE159.out⟩⟩
        · rw [if_neg c21] at H
          have c21b0 := decide_eq_false c21
          clear c21
          simp only [Option.some.injEq, Prod.mk.injEq] at H
          obtain ⟨rfl, rfl, rfl, rfl⟩ := H
          have hnb47 := NB157_156.out
          have hnc47 := NB156_157.out
          have hnb48 := NB157_158.out
          have hnc48 := NB158_157.out
          have hnb49 := NB157_159.out
          have hnc49 := NB159_157.out
          obtain ⟨hcz50_0, hcz50_1, hcz50_2, hcz50_3⟩ := zc4 BK157
          obtain ⟨hfz50_0, hfz50_1, hfz50_2, hfz50_3⟩ := zf4 BK157
          have hnb51 := NB159_156.out
          have hnc51 := NB156_159.out
          have hnb52 := NB159_158.out
          have hnc52 := NB158_159.out
          obtain ⟨hcz53_0, hcz53_1, hcz53_2, hcz53_3⟩ := zc4 BK159
          obtain ⟨hfz53_0, hfz53_1, hfz53_2, hfz53_3⟩ := zf4 BK159
          have hnb54 := NB158_156.out
          have hnc54 := NB156_158.out
          obtain ⟨hcz55_0, hcz55_1, hcz55_2, hcz55_3⟩ := zc4 BK158
          obtain ⟨hfz55_0, hfz55_1, hfz55_2, hfz55_3⟩ := zf4 BK158
          go_wp2
          refine bodyPost_ret (results_cell_row rfl _ _ gb158 25 #[.int .i64 (wrap64 (a0_0 + a1_0)), .int .i64 x160001_1, .int .i64 (Go.bits .or .i64 a0_2 (ji5)), .int .i64 (Go.bits .or .i64 a0_3 (ji7))] (0, 0) _ rfl (zQ BK158.out) Tryz.underlying25 rfl (by kernel_rfl)) rfl ?_
          exact ⟨by first | rfl | (simp [errW_none, errW_some] <;> rfl) | (simp only [← hji3, ← hji5, ← hji7]; first | rfl | (simp [errW_none, errW_some] <;> rfl)) | (simp [*, errW_none, errW_some] <;> rfl), zH4 HB.out GE156.out GE157.out GE158.out GE159.out⟩
  · rw [if_neg c4] at H
    exact absurd H (by simp)

end Go.Proofs.YtlmohkbimnhecaaGreatDoor.Q
