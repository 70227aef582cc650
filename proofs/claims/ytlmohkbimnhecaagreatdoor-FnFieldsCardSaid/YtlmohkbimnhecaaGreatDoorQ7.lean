-- Written by a program of this session (wip/tools/px.sh) over the seat's translation; Lean checks it.
import Derived.Test.YtlmohkbimnhecaaGreatDoorQ0
import Derived.Test.YtlmohkbimnhecaaGreatDoorSq
import Derived.Test.YtlmohkbimnhecaaGreatDoorQ4
import Derived.Test.YtlmohkbimnhecaaGreatDoorQ6
namespace Go.Proofs.YtlmohkbimnhecaaGreatDoor.Q
open Go.RowKit Go.Proofs.YtlmohkbimnhecaaGreatDoorW.PrintWords Go.Proofs.YtlmohkbimnhecaaGreatDoorW.PrintLast Go.Proofs.YtlmohkbimnhecaaGreatDoorW.PrintMore
attribute [local go_sem] max2_int min2_int max_two min_two max_three min_three max_four min_four   -- for this text's walks alone
set_option linter.unusedVariables false
set_option linter.unusedSimpArgs false

/-! ### spec_l01Split: function 76 -/
def spec_l01Split.l0 : Nat → ByteArray → Int → List ByteArray → Int → Int → Option (List ByteArray)
  | 0, _, _, _, _, _ => none
  | k + 1, x0, x1, x5, x6, x7 => if x7 < (x0.size : Int) then (if 0 ≤ x7 then (if (bt x0 x7) = x1 then (if 0 ≤ x6 then (if x6 ≤ x7 then (if x7 ≤ (x0.size : Int) then (if x5.length < 8796093022208 then (spec_l01Split.l0 k x0 x1 (x5 ++ [x0.extract (x6 : Int).toNat (x7 : Int).toNat]) (wrap64 (x7 + 1)) (wrap64 (x7 + 1))) else (none)) else (none)) else (none)) else (none)) else (spec_l01Split.l0 k x0 x1 x5 x6 (wrap64 (x7 + 1)))) else (none)) else (if 0 ≤ x6 then (if x6 ≤ (x0.size : Int) then (if x5.length < 8796093022208 then (some (x5 ++ [x0.extract (x6 : Int).toNat x0.size])) else (none)) else (none)) else (none))
def spec_l01Split.f (k : Nat) (a0 : ByteArray) (a1 : Int) : Option (List ByteArray) := spec_l01Split.l0 k a0 a1 (([] : List ByteArray)) 0 0
set_option maxHeartbeats 8000000 in
set_option maxRecDepth 100000 in
theorem spec_l01Split.calls (k : Nat) (a0 : ByteArray) (a1 : Int) (r : List ByteArray) (w : World) (h : spec_l01Split.f k a0 a1 = some r) :
    Calls Tryz.prog 76 #[.string a0, .int .u8 a1] w fun e w' => ∃ v0_ : Value, e = .returned (v0_) ∧ Kd.R Kd.string 9 w' w.heap.size (fun _ => True) v0_ r ∧ Below w.heap.size w w' := by
  have HB := Aside0.mk (Below.refl w.heap.size w)
  have H : (spec_l01Split.l0 k a0 a1 (([] : List ByteArray)) 0 0) = some r := h
  clear h
  obtain ⟨y580, hy580⟩ : ∃ y_ : List ByteArray, y_ = (([] : List ByteArray)) := ⟨_, rfl⟩
  replace H : (spec_l01Split.l0 k a0 a1 y580 0 0) = some r := by first | (rw [hy580]; with_reducible exact H) | (have H2_ := (Option.bind_some _ _).symm.trans H; rw [hy580]; with_reducible exact H2_) | (have H2_ := (Option.bind_some _ _).symm.trans H; with_reducible exact H2_) | with_reducible exact H | (rw [hy580]; exact H) | exact H
  have Ny580 := Aside0.mk hy580
  clear hy580
  have H' := Aside0.mk H
  clear H
  go_enter Tryz.func76, Tryz.ntmps76
  go_wp2_with (first | ((with_reducible refine gate_dst (N := 8) rfl ?_); refine Kd.R_lit Kd.string _ 9 ?hg (N := 8) ?hd (xs := ([] : List ByteArray)) (inner := []) (ok := fun _ => True) (okp := fun _ => True) ?hr ?hp (fun _ hk => hk) trivial (Below.refl _ _) (Nat.le_refl _) (by simp) ?_; (case hd => rfl); (case hg => rfl); (case hr => first | (go_simp; done) | (go_simp; rfl)); (case hp => exact (Reps.none _ _)); intro v581 w3 ho4 hb hg_ hnew_; clear hg_ hnew_; (first | rw [← Ny580.out] at ho4 | (simp only [Int.reduceToNat] at ho4; rw [← Ny580.out] at ho4)); refine zA2 (Kd.R_lower ho4 (below_size (zH HB.out))) (below_step (zH HB.out) hb) ?_; clear HB; intro HO582 HB; clear hb ho4))
  go_loopg [5, 6, 7] k (fun kq v5 v6 v7 w' => ∃ (x5_1 : List ByteArray) (x6_1 : Int) (x7_1 : Int), v6 = .int .i64 x6_1 ∧ v7 = .int .i64 x7_1 ∧ Aside0 (spec_l01Split.l0 kq a0 a1 x5_1 x6_1 x7_1 = some r) ∧ Aside0 (kq ≤ k) ∧ Aside0 (Kd.R Kd.string 9 w' w.heap.size (fun _ => True) v5 x5_1) ∧ Aside0 (Below w.heap.size w w'))
  case atStart => exact ⟨(y580), (0), (0), (zF), (zF), H', ⟨Nat.le_refl _⟩, ⟨zR HO582.out⟩, ⟨zH HB.out⟩⟩
  case round =>
    clear H'
    try clear p2
    obtain ⟨x5_1, x6_1, x7_1, rfl, rfl, HA, HK1, HO_5, HB⟩ := hrel
    cases gk with
    | zero => exact absurd HA.out (by simp [spec_l01Split.l0])
    | succ k1 =>
      have H := HA.out
      clear HA
      simp only [spec_l01Split.l0] at H
      by_cases c5 : x7_1 < (a0.size : Int)
      · rw [if_pos c5] at H
        have c5b0 := decide_eq_true c5
        clear c5
        by_cases c6 : 0 ≤ x7_1
        · rw [if_pos c6] at H
          have c6b0 := decide_eq_true c6
          clear c6
          by_cases c8 : (bt a0 x7_1) = a1
          · rw [if_pos c8] at H
            have c8b0 := zq1 c8
            have c8b1 := zq2 c8
            clear c8
            by_cases c9 : 0 ≤ x6_1
            · rw [if_pos c9] at H
              have c9b0 := eq_true c9
              have c9b1 := decide_eq_true c9
              clear c9
              by_cases c10 : x6_1 ≤ x7_1
              · rw [if_pos c10] at H
                have c10b0 := eq_true c10
                have c10b1 := decide_eq_true c10
                clear c10
                by_cases c11 : x7_1 ≤ (a0.size : Int)
                · rw [if_pos c11] at H
                  have c11b0 := eq_true c11
                  have c11b1 := decide_eq_true c11
                  clear c11
                  by_cases c12 : x5_1.length < 8796093022208
                  · rw [if_pos c12] at H
                    have LMc12 := Aside0.mk c12
                    clear c12
                    obtain ⟨y583, hy583⟩ : ∃ y_ : List ByteArray, y_ = (x5_1 ++ [a0.extract (x6_1 : Int).toNat (x7_1 : Int).toNat]) := ⟨_, rfl⟩
                    replace H : (spec_l01Split.l0 k1 a0 a1 y583 (wrap64 (x7_1 + 1)) (wrap64 (x7_1 + 1))) = some r := by first | (rw [hy583]; with_reducible exact H) | (have H2_ := (Option.bind_some _ _).symm.trans H; rw [hy583]; with_reducible exact H2_) | (have H2_ := (Option.bind_some _ _).symm.trans H; with_reducible exact H2_) | with_reducible exact H | (rw [hy583]; exact H) | exact H
                    have Ny583 := Aside0.mk hy583
                    clear hy583
                    have H' := Aside0.mk H
                    clear H
                    have p7 : 0 ≤ (x7_1 : Int) := of_decide_eq_true (by first | (with_reducible assumption) | assumption)
                    have q7 : x7_1 < (a0.size : Int) := of_decide_eq_true (by first | (with_reducible assumption) | assumption)
                    have hx7 := bt_at a0 x7_1
                    replace p7 := eq_true p7
                    replace q7 := eq_true q7
                    go_wp2_with (first | ((with_reducible refine gate_builtin (b := .append) (xs := #[.tmp 20, .tmp 25]) rfl ?_); at_builtin; refine Kd.R_append Kd.string (w0 := w) w.heap.size rfl (.tmp 20) (.tmp 25) 72 9 (.string ⟨#[]⟩) 16 rfl Tryz.underlying72 info9 rfl (by decide) (by omega) u5 x5_1 (a0.extract (x6_1 : Int).toNat (x7_1 : Int).toNat) [.string (a0.extract (x6_1 : Int).toNat (x7_1 : Int).toNat)] (fun _ => True) (fun _ => False) rfl rfl ?aP (fun _ hk => hk.elim) ?aF ?aO ?aB ?aS ?aL ?_; (case aP => exact rfl); (case aB => exact (zH HB.out)); (case aF => exact (fun _ _ => trivial)); (case aO => exact (zR HO_5.out)); (case aS => exact (below_size (zH HB.out))); (case aL => have := LMc12.out; omega); intro v584 w13 ho hb hg hat; rw [← Ny583.out] at ho; refine zA2 (hb) (ho) ?_; clear HB HO_5; intro HB HO585; clear ho hb hg hat))
                    go_roundg k1
                    case measure => have := HK1.out; omega
                    case rel => exact ⟨(y583), (wrap64 (x7_1 + 1)), (wrap64 (x7_1 + 1)), (zF), (zF), H', ⟨by have := HK1.out; omega⟩, ⟨zR HO585.out⟩, ⟨zH HB.out⟩⟩
                  · rw [if_neg c12] at H
                    exact absurd H (by simp)
                · rw [if_neg c11] at H
                  exact absurd H (by simp)
              · rw [if_neg c10] at H
                exact absurd H (by simp)
            · rw [if_neg c9] at H
              exact absurd H (by simp)
          · rw [if_neg c8] at H
            have c8b0 := zq3 c8
            have c8b1 := zq4 c8
            have H' := Aside0.mk H
            clear H
            have p7 : 0 ≤ (x7_1 : Int) := of_decide_eq_true (by first | (with_reducible assumption) | assumption)
            have q7 : x7_1 < (a0.size : Int) := of_decide_eq_true (by first | (with_reducible assumption) | assumption)
            have hx7 := bt_at a0 x7_1
            replace p7 := eq_true p7
            replace q7 := eq_true q7
            go_wp2
            go_roundg k1
            case measure => have := HK1.out; omega
            case rel => exact ⟨(x5_1), (x6_1), (wrap64 (x7_1 + 1)), (zF), (zF), H', ⟨by have := HK1.out; omega⟩, ⟨zR HO_5.out⟩, ⟨zH HB.out⟩⟩
        · rw [if_neg c6] at H
          exact absurd H (by simp)
      · rw [if_neg c5] at H
        have c5b0 := decide_eq_false c5
        clear c5
        by_cases c14 : 0 ≤ x6_1
        · rw [if_pos c14] at H
          have c14b0 := eq_true c14
          have c14b1 := decide_eq_true c14
          clear c14
          by_cases c15 : x6_1 ≤ (a0.size : Int)
          · rw [if_pos c15] at H
            have c15b0 := eq_true c15
            have c15b1 := decide_eq_true c15
            clear c15
            by_cases c16 : x5_1.length < 8796093022208
            · rw [if_pos c16] at H
              have LMc16 := Aside0.mk c16
              clear c16
              obtain ⟨y586, hy586⟩ : ∃ y_ : List ByteArray, y_ = (x5_1 ++ [a0.extract (x6_1 : Int).toNat a0.size]) := ⟨_, rfl⟩
              replace H : (some y586) = some r := by first | (rw [hy586]; with_reducible exact H) | (have H2_ := (Option.bind_some _ _).symm.trans H; rw [hy586]; with_reducible exact H2_) | (have H2_ := (Option.bind_some _ _).symm.trans H; with_reducible exact H2_) | with_reducible exact H | (rw [hy586]; exact H) | exact H
              have Ny586 := Aside0.mk hy586
              clear hy586
              obtain rfl := Option.some.inj H
              go_wp2_with (first | ((with_reducible refine gate_builtin (b := .append) (xs := #[.tmp 29, .tmp 33]) rfl ?_); at_builtin; refine Kd.R_append Kd.string (w0 := w) w.heap.size rfl (.tmp 29) (.tmp 33) 72 9 (.string ⟨#[]⟩) 16 rfl Tryz.underlying72 info9 rfl (by decide) (by omega) u5 x5_1 (a0.extract (x6_1 : Int).toNat a0.size) [.string (a0.extract (x6_1 : Int).toNat a0.size)] (fun _ => True) (fun _ => False) rfl rfl ?aP (fun _ hk => hk.elim) ?aF ?aO ?aB ?aS ?aL ?_; (case aP => exact rfl); (case aB => exact (zH HB.out)); (case aF => exact (fun _ _ => trivial)); (case aO => exact (zR HO_5.out)); (case aS => exact (below_size (zH HB.out))); (case aL => have := LMc16.out; omega); intro v587 w17 ho hb hg hat; rw [← Ny586.out] at ho; refine zA2 (hb) (ho) ?_; clear HB HO_5; intro HB HO588; clear ho hb hg hat))
              go_ret
              exact ⟨_, zE, by (with_reducible repeat (first | apply Kd.R_alloc | apply Kd.R_drewN | apply Kd.R_drew)); exact HO588.out, zH HB.out⟩
            · rw [if_neg c16] at H
              exact absurd H (by simp)
          · rw [if_neg c15] at H
            exact absurd H (by simp)
        · rw [if_neg c14] at H
          exact absurd H (by simp)

/-! ### spec_l05Read: function 65 -/
mutual
def spec_l05Read.j0 : Nat → ByteArray → List ByteArray → Bool → Int → Int → Int → Int → Option (Int × Int × Int × Int × Bool)
  | 0, _, _, _, _, _, _, _ => none
  | k + 1, x0, x4, x25, x594000, x594001, x594002, x594003 => if x25 = true then (some (0, 0, 0, 0, false)) else (spec_l05Read.l0 k x0 x4 0 x594000 x594001 x594002 x594003)
def spec_l05Read.l0 : Nat → ByteArray → List ByteArray → Int → Int → Int → Int → Int → Option (Int × Int × Int × Int × Bool)
  | 0, _, _, _, _, _, _, _ => none
  | k + 1, x0, x4, x6, x594000, x594001, x594002, x594003 => if x6 < (x4.length : Int) then (if 0 < (x4.length : Int) then (if 0 ≤ x6 then (if x6 < ((rdOf ByteArray.empty x4 0).size : Int) then (if (bt (rdOf ByteArray.empty x4 0) x6) = 114 then (if 0 ≤ (IntKind.u64.wrap (x6)) then (spec_l05Read.l0 k x0 x4 (wrap64 (x6 + 1)) x594000 x594001 (Go.bits .or .i64 x594002 (shl .i64 1 (IntKind.u64.wrap (x6)))) x594003) else (none)) else (if (bt (rdOf ByteArray.empty x4 0) x6) = 98 then (if 0 ≤ (IntKind.u64.wrap (x6)) then (spec_l05Read.l0 k x0 x4 (wrap64 (x6 + 1)) x594000 x594001 x594002 (Go.bits .or .i64 x594003 (shl .i64 1 (IntKind.u64.wrap (x6))))) else (none)) else (spec_l05Read.l0 k x0 x4 (wrap64 (x6 + 1)) x594000 x594001 x594002 x594003))) else (none)) else (none)) else (none)) else (spec_l05Read.l1 k x0 x4 1 x594000 x594001 x594002 x594003)
def spec_l05Read.l1 : Nat → ByteArray → List ByteArray → Int → Int → Int → Int → Int → Option (Int × Int × Int × Int × Bool)
  | 0, _, _, _, _, _, _, _ => none
  | k + 1, x0, x4, x7, x594000, x594001, x594002, x594003 => if x7 < (x4.length : Int) then (spec_l05Read.l2 k x0 x4 x7 0 x594000 x594001 x594002 x594003) else ((spec_l05Text.f k x594000 x594001 x594002 x594003).bind fun t596 => (some (x594000, x594001, x594002, x594003, (t596.toList == x0.toList))))
def spec_l05Read.l2 : Nat → ByteArray → List ByteArray → Int → Int → Int → Int → Int → Int → Option (Int × Int × Int × Int × Bool)
  | 0, _, _, _, _, _, _, _, _ => none
  | k + 1, x0, x4, x7, x8, x594000, x594001, x594002, x594003 => if x8 < x7 then (if 0 ≤ x7 then (if x7 < (x4.length : Int) then (spec_l05Read.j4 k x0 x4 x7 x8 (((rdOf ByteArray.empty x4 x7).size : Int) == x7) x594000 x594001 x594002 x594003) else (none)) else (none)) else (spec_l05Read.j4 k x0 x4 x7 x8 false x594000 x594001 x594002 x594003)
def spec_l05Read.j4 : Nat → ByteArray → List ByteArray → Int → Int → Bool → Int → Int → Int → Int → Option (Int × Int × Int × Int × Bool)
  | 0, _, _, _, _, _, _, _, _, _ => none
  | k + 1, x0, x4, x7, x8, x73, x594000, x594001, x594002, x594003 => if x73 = true then (if 0 ≤ x7 then (if x7 < (x4.length : Int) then (if 0 ≤ x8 then (if x8 < ((rdOf ByteArray.empty x4 x7).size : Int) then (if (bt (rdOf ByteArray.empty x4 x7) x8) = 49 then (if 0 ≤ (IntKind.u64.wrap (wrap64 ((wrap64 (Int.tdiv (wrap64 (x7 * (wrap64 (x7 - 1)))) 2)) + x8))) then (spec_l05Read.l2 k x0 x4 x7 (wrap64 (x8 + 1)) x594000 (Go.bits .or .i64 x594001 (shl .i64 1 (IntKind.u64.wrap (wrap64 ((wrap64 (Int.tdiv (wrap64 (x7 * (wrap64 (x7 - 1)))) 2)) + x8))))) x594002 x594003) else (none)) else (spec_l05Read.l2 k x0 x4 x7 (wrap64 (x8 + 1)) x594000 x594001 x594002 x594003)) else (none)) else (none)) else (none)) else (none)) else (spec_l05Read.l1 k x0 x4 (wrap64 (x7 + 1)) x594000 x594001 x594002 x594003)
end
def spec_l05Read.f (k : Nat) (a0 : ByteArray) : Option (Int × Int × Int × Int × Bool) := (spec_l01Split.f k a0 44).bind fun t590 => (if (t590.length : Int) > 8 then (spec_l05Read.j0 k a0 t590 true (t590.length : Int) 0 0 0) else (if 0 < (t590.length : Int) then (spec_l05Read.j0 k a0 t590 (((rdOf ByteArray.empty t590 0).size : Int) != (t590.length : Int)) (t590.length : Int) 0 0 0) else (none)))
set_option maxHeartbeats 8000000 in
set_option maxRecDepth 100000 in
theorem spec_l05Read.calls (k : Nat) (a0 : ByteArray) (r1 : Int) (r2 : Int) (r3 : Int) (r4 : Int) (r5 : Bool) (w : World) (h : spec_l05Read.f k a0 = some (r1, r2, r3, r4, r5)) :
    Calls Tryz.prog 65 #[.string a0] w fun e w' => e = .returned (.tuple #[.agg #[.int .i64 r1, .int .i64 r2, .int .i64 r3, .int .i64 r4], .bool r5]) ∧ Below w.heap.size w w' := by
  have hu25 := Tryz.underlying25
  have HB := Aside0.mk (Below.refl w.heap.size w)
  have H : ((spec_l01Split.f k a0 44).bind fun t590 => (if (t590.length : Int) > 8 then (spec_l05Read.j0 k a0 t590 true (t590.length : Int) 0 0 0) else (if 0 < (t590.length : Int) then (spec_l05Read.j0 k a0 t590 (((rdOf ByteArray.empty t590 0).size : Int) != (t590.length : Int)) (t590.length : Int) 0 0 0) else (none)))) = some (r1, r2, r3, r4, r5) := h
  clear h
  obtain ⟨t590, A2, H⟩ := zb H
  have HC3 := Aside0.mk H
  clear H
  go_enter Tryz.func65, Tryz.ntmps65
  go_upto_region 3 with (first | ((with_reducible refine gate_dst (N := 2) rfl ?_); (try (refine gate_guard (by rfl) ?_; dsimp only)); refine zX 2 #[.int .i64 0, .int .i64 0, .int .i64 0, .int .i64 0] 25 ?_; intro gb589 hg w4 hbox hb; refine zA4 (below_step (zH HB.out) hb) (hbox) ((zS hg (below_size (zH HB.out)) : w.heap.size ≤ gb589)) ((zS hg (below_size (zH HB.out)) : w.heap.size ≤ gb589)) ?_; clear HB; intro HB BK589 GW589 GE589; clear hb hbox hg) | ((with_reducible refine gate_callee (f := 76) rfl ?_); refine goesL_ (some 10) rfl rfl Tryz.func76 (by kernel_rfl) rfl #[.string a0, .int .u8 44] rfl zM ?_; (with_reducible refine (spec_l01Split.calls k a0 44 t590 _ A2.out).mono ?_); rintro e w5 ⟨v591, rfl, ho0, hb⟩; refine ⟨_, rfl, ?_⟩; refine zA3 (Kd.R_lower ho0 (below_size (zH1 HB.out GE589.out))) (zY BK589.out hb) (below_step (zH1 HB.out GE589.out) hb) ?_; clear BK589 HB; intro HO592 BK589 HB; (try clear hb); (try clear hb2); (try clear hk); (try clear hi); (try clear ho0); obtain ⟨Ao6, co6, eo6⟩ := Kd.R_slice HO592.out; subst eo6) | ((with_reducible refine gate_dst (N := 5) rfl ?_); (try (refine gate_guard (by rfl) ?_; dsimp only)); refine zX 5 #[.int .i64 0, .int .i64 0, .int .i64 0, .int .i64 0] 25 ?_; intro gb593 hg w7 hbox hb; refine zA8 (Kd.R_below (zR HO592.out) hb) (zY BK589.out hb) (below_step (zH1 HB.out GE589.out) hb) (hbox) ((zS hg (below_size (zH1 HB.out GE589.out)) : w.heap.size ≤ gb593)) ((zS hg (below_size (zH1 HB.out GE589.out)) : w.heap.size ≤ gb593)) ((zl hg (blk_lt (g := gb589) (o := .cells #[.int .i64 0, .int .i64 0, .int .i64 0, .int .i64 0] 25 (0, 0)) (zB BK589.out)) : gb589 ≠ gb593)) ((zg hg (blk_lt (g := gb589) (o := .cells #[.int .i64 0, .int .i64 0, .int .i64 0, .int .i64 0] 25 (0, 0)) (zB BK589.out)) : gb593 ≠ gb589)) ?_; clear HO592 BK589 HB; intro HO592 BK589 HB BK593 GW593 GE593 NB589_593 NB593_589; clear hb hbox hg; have hnb8 := NB593_589.out; have hnc8 := NB589_593.out; obtain ⟨hcz9_0, hcz9_1, hcz9_2, hcz9_3⟩ := zc4 BK593; obtain ⟨hfz9_0, hfz9_1, hfz9_2, hfz9_3⟩ := zf4 BK593))
  (try simp only [Act.put, List.setIfInBounds_toArray, List.set_cons_zero, List.set_cons_succ])
  go_cut [25] (fun v25 wc => ∃ (kq : Nat) (x25_2 : Bool), v25 = .bool x25_2 ∧ Aside0 (spec_l05Read.j0 kq a0 t590 x25_2 (t590.length : Int) 0 0 0 = some (r1, r2, r3, r4, r5)) ∧ Aside0 (kq ≤ k) ∧ Aside0 (Kd.R Kd.string 9 wc w.heap.size (fun _ => True) (.slice Ao6 t590.length co6) t590) ∧ Aside0 (wc.heap[gb589]? = some (.cells #[.int .i64 0, .int .i64 0, .int .i64 0, .int .i64 0] 25 (0, 0))) ∧ Aside0 (wc.heap[gb593]? = some (.cells #[.int .i64 (t590.length : Int), .int .i64 0, .int .i64 0, .int .i64 0] 25 (0, 0))) ∧ Aside0 (Below w.heap.size w wc))
  case first =>
    have H := HC3.out
    clear HC3
    by_cases c10 : (t590.length : Int) > 8
    · rw [if_pos c10] at H
      have c10b0 := decide_eq_true c10
      have c10b1 : decide (8 < t590.length) = true := decide_eq_true (by omega)
      clear c10
      (first | rw [c10b0] | (simp only [i64_w, i32_w]; rw [c10b0]) | skip)
      have H' := Aside0.mk H
      clear H
      go_wp2
      go_meet
      case rel => exact ⟨_, (true), (zF), H', ⟨by first | omega | exact Nat.le_refl _⟩, ⟨zRm (Kd.R_far (p := ⟨gb593, 3, none⟩) (Kd.R_far (p := ⟨gb593, 2, none⟩) (Kd.R_far (p := ⟨gb593, 1, none⟩) (Kd.R_far (p := ⟨gb593, 0, none⟩) (Kd.R_types HO592.out BK593.out (by decide)) (fun _ hk => hk.2) (.int .i64 (t590.length : Int))) (fun _ hk => hk.2) (.int .i64 0)) (fun _ hk => hk.2) (.int .i64 0)) (fun _ hk => hk.2) (.int .i64 0)) (fun _ hk => trivial)⟩, ⟨zQ1 BK589.out NB589_593.out⟩, ⟨zQ BK593.out⟩, ⟨zH2 HB.out GE589.out GE593.out⟩⟩
    · rw [if_neg c10] at H
      have c10b0 := decide_eq_false c10
      have c10b1 : decide (8 < t590.length) = false := decide_eq_false (by omega)
      clear c10
      (first | rw [c10b0] | (simp only [i64_w, i32_w]; rw [c10b0]) | skip)
      by_cases c11 : 0 < (t590.length : Int)
      · rw [if_pos c11] at H
        have c11b0 := decide_eq_true c11
        have c11b1 : decide (0 < t590.length) = true := decide_eq_true (by omega)
        clear c11
        have H' := Aside0.mk H
        clear H
        have p594 : 0 ≤ (0 : Int) := (by omega)
        have q594 : 0 < (t590.length : Int) := of_decide_eq_true (by first | (with_reducible assumption) | assumption)
        obtain ⟨ad594, e594, hx594_0⟩ := Kd.at_string (Kd.R_reads' HO592.out).2.2 0 p594 q594
        cases e594
        have qi594 : (0 < t590.length) = True := eq_true (by omega)
        (try rw [show ((0 : Int)).toNat = 0 from rfl] at hx594_0)
        (try rw [Addr.add_zero'] at hx594_0)
        have hn594_0 : ad594.block ≠ gb593 := Kd.own_blk (Kd.R_ne HO592.out BK593.out (by decide))
        have hn594_1 : ad594.block ≠ gb593 := Kd.own_blk (Kd.R_ne HO592.out BK593.out (by decide))
        have hn594_2 : ad594.block ≠ gb593 := Kd.own_blk (Kd.R_ne HO592.out BK593.out (by decide))
        have hn594_3 : ad594.block ≠ gb593 := Kd.own_blk (Kd.R_ne HO592.out BK593.out (by decide))
        replace hx594_0 := (cell_far (p := ⟨gb593, 0, none⟩) (by first | (rw [add_block]; exact hn594_0) | (show (Addr.add _ _).block ≠ _; rw [add_block]; exact hn594_0) | exact hn594_0) (.int .i64 (t590.length : Int))).trans hx594_0
        replace hx594_0 := (cell_far (p := ⟨gb593, 1, none⟩) (by first | (rw [add_block]; exact hn594_1) | (show (Addr.add _ _).block ≠ _; rw [add_block]; exact hn594_1) | exact hn594_1) (.int .i64 0)).trans hx594_0
        replace hx594_0 := (cell_far (p := ⟨gb593, 2, none⟩) (by first | (rw [add_block]; exact hn594_2) | (show (Addr.add _ _).block ≠ _; rw [add_block]; exact hn594_2) | exact hn594_2) (.int .i64 0)).trans hx594_0
        replace hx594_0 := (cell_far (p := ⟨gb593, 3, none⟩) (by first | (rw [add_block]; exact hn594_3) | (show (Addr.add _ _).block ≠ _; rw [add_block]; exact hn594_3) | exact hn594_3) (.int .i64 0)).trans hx594_0
        clear hn594_0
        clear hn594_1
        clear hn594_2
        clear hn594_3
        replace p594 := eq_true p594
        replace q594 := eq_true q594
        go_wp2
        go_meet
        case rel => exact ⟨_, ((((rdOf ByteArray.empty t590 0).size : Int) != (t590.length : Int))), (zF), H', ⟨by first | omega | exact Nat.le_refl _⟩, ⟨zRm (Kd.R_far (p := ⟨gb593, 3, none⟩) (Kd.R_far (p := ⟨gb593, 2, none⟩) (Kd.R_far (p := ⟨gb593, 1, none⟩) (Kd.R_far (p := ⟨gb593, 0, none⟩) (Kd.R_types HO592.out BK593.out (by decide)) (fun _ hk => hk.2) (.int .i64 (t590.length : Int))) (fun _ hk => hk.2) (.int .i64 0)) (fun _ hk => hk.2) (.int .i64 0)) (fun _ hk => hk.2) (.int .i64 0)) (fun _ hk => trivial)⟩, ⟨zQ1 BK589.out NB589_593.out⟩, ⟨zQ BK593.out⟩, ⟨zH2 HB.out GE589.out GE593.out⟩⟩
      · rw [if_neg c11] at H
        exact absurd H (by simp)
  case rest =>
    clear HC3
    try clear c1
    try clear p2
    try clear p5
    try clear q5
    try clear hx5
    try clear qi5
    try clear c6
    try clear c7
    try clear c8
    try clear c10
    try clear c10b0
    try clear c10b1
    try clear c11
    try clear c11b0
    try clear c11b1
    try clear hcz9_0
    try clear hcz9_1
    try clear hcz9_2
    try clear hcz9_3
    try clear hfz9_0
    try clear hfz9_1
    try clear hfz9_2
    try clear hfz9_3
    try clear hx594_0
    try clear p594
    try clear q594
    obtain ⟨kq, x25_2, rfl, HA, HJ2, HO_4, BK589, BK593, HB⟩ := hcut
    cases kq with
    | zero => exact absurd HA.out (by simp [spec_l05Read.j0])
    | succ kj2 =>
      have H := HA.out
      clear HA
      simp only [spec_l05Read.j0] at H
      by_cases c12 : x25_2 = true
      · subst c12
        have H1 : (some (0, 0, 0, 0, false)) = some (r1, r2, r3, r4, r5) := by rw [if_pos rfl] at H; exact H
        clear H
        have H := H1
        clear H1
        simp only [Option.some.injEq, Prod.mk.injEq] at H
        obtain ⟨rfl, rfl, rfl, rfl, rfl⟩ := H
        have hnb13 := NB589_593.out
        have hnc13 := NB593_589.out
        obtain ⟨hcz14_0, hcz14_1, hcz14_2, hcz14_3⟩ := zc4 BK589
        obtain ⟨hfz14_0, hfz14_1, hfz14_2, hfz14_3⟩ := zf4 BK589
        go_wp2
        refine bodyPost_ret (results_ct rfl _ _ gb589 25 #[.int .i64 0, .int .i64 0, .int .i64 0, .int .i64 0] (0, 0) _ rfl (zQ BK589.out) Tryz.underlying25 rfl (by kernel_rfl)) rfl ?_
        exact ⟨zE, zH2 HB.out GE589.out GE593.out⟩
      · replace c12 := Bool.eq_false_iff.mpr c12
        subst c12
        have H1 : (spec_l05Read.l0 kj2 a0 t590 0 (t590.length : Int) 0 0 0) = some (r1, r2, r3, r4, r5) := by rw [if_neg (show ¬ (false = true) by decide)] at H; exact H
        clear H
        have H := H1
        clear H1
        have H' := Aside0.mk H
        clear H
        go_wp2
        go_loopg [6] kj2 (fun kq v6 w' => ∃ (x6_2 : Int) (x594002_2 : Int) (x594003_2 : Int), v6 = .int .i64 x6_2 ∧ Aside0 (spec_l05Read.l0 kq a0 t590 x6_2 (t590.length : Int) 0 x594002_2 x594003_2 = some (r1, r2, r3, r4, r5)) ∧ Aside0 (kq ≤ kj2) ∧ Aside0 (Kd.R Kd.string 9 w' w.heap.size (fun _ => True) (.slice Ao6 t590.length co6) t590) ∧ Aside0 (w'.heap[gb589]? = some (.cells #[.int .i64 0, .int .i64 0, .int .i64 0, .int .i64 0] 25 (0, 0))) ∧ Aside0 (w'.heap[gb593]? = some (.cells #[.int .i64 (t590.length : Int), .int .i64 0, .int .i64 x594002_2, .int .i64 x594003_2] 25 (0, 0))) ∧ Aside0 (Below w.heap.size w w'))
        case atStart => exact ⟨(0), (0), (0), (zF), H', ⟨Nat.le_refl _⟩, ⟨zR HO_4.out⟩, ⟨zB BK589.out⟩, ⟨zB BK593.out⟩, ⟨zH2 HB.out GE589.out GE593.out⟩⟩
        case round =>
          clear H'
          try clear c1
          try clear p2
          try clear p5
          try clear q5
          try clear hx5
          try clear qi5
          try clear c6
          try clear c7
          try clear c8
          try clear c10
          try clear c10b0
          try clear c10b1
          try clear c11
          try clear c11b0
          try clear c11b1
          try clear c12
          try clear c13
          try clear hcz14_0
          try clear hcz14_1
          try clear hcz14_2
          try clear hcz14_3
          try clear hcz9_0
          try clear hcz9_1
          try clear hcz9_2
          try clear hcz9_3
          try clear hfz14_0
          try clear hfz14_1
          try clear hfz14_2
          try clear hfz14_3
          try clear hfz9_0
          try clear hfz9_1
          try clear hfz9_2
          try clear hfz9_3
          try clear hx594_0
          try clear p2
          try clear p5
          try clear p594
          try clear q5
          try clear q594
          obtain ⟨x6_2, x594002_2, x594003_2, rfl, HA, HK2, HO_4, BK589, BK593, HB⟩ := hrel
          cases gk with
          | zero => exact absurd HA.out (by simp [spec_l05Read.l0])
          | succ k2 =>
            have H := HA.out
            clear HA
            simp only [spec_l05Read.l0] at H
            by_cases c15 : x6_2 < (t590.length : Int)
            · rw [if_pos c15] at H
              have c15b0 := decide_eq_true c15
              clear c15
              by_cases c16 : 0 < (t590.length : Int)
              · rw [if_pos c16] at H
                have c16b0 := decide_eq_true c16
                have c16b1 : decide (0 < t590.length) = true := decide_eq_true (by omega)
                clear c16
                by_cases c17 : 0 ≤ x6_2
                · rw [if_pos c17] at H
                  have c17b0 := decide_eq_true c17
                  clear c17
                  by_cases c18 : x6_2 < ((rdOf ByteArray.empty t590 0).size : Int)
                  · rw [if_pos c18] at H
                    have c18b0 := decide_eq_true c18
                    clear c18
                    by_cases c20 : (bt (rdOf ByteArray.empty t590 0) x6_2) = 114
                    · rw [if_pos c20] at H
                      have c20b0 := zq1 c20
                      have c20b1 := zq2 c20
                      clear c20
                      obtain ⟨ji21, hji21⟩ := zj (IntKind.u64.wrap (x6_2))
                      (first | rw [hji21] at H | simp only [hji21] at H)
                      by_cases c22 : 0 ≤ (ji21)
                      · rw [if_pos c22] at H
                        have c22b0 := eq_true c22
                        have c22b1 := decide_eq_true c22
                        clear c22
                        obtain ⟨ji23, hji23⟩ := zj (shl .i64 1 (ji21))
                        (first | rw [hji23] at H | simp only [hji23] at H)
                        have hji23_ : (IntKind.i64.wrap (1 * 2 ^ min (ji21).toNat 64)) = ji23 := hji23
                        have hji23z : (ji21) ≤ 64 → (IntKind.i64.wrap (1 * 2 ^ (ji21).toNat)) = ji23 := shl_small hji23
                        have hji23u : (IntKind.i64.wrap (2 ^ min (ji21).toNat 64)) = ji23 := by have h_ := hji23_; rw [Int.one_mul] at h_; exact h_
                        have hji23v : (ji21) ≤ 64 → (IntKind.i64.wrap (2 ^ (ji21).toNat)) = ji23 := fun hle_ => by have h_ := hji23z hle_; rw [Int.one_mul] at h_; exact h_
                        have hji23y : (wrap64 (1 * 2 ^ min (ji21).toNat 64)) = ji23 := (i64_w _).symm.trans hji23_
                        have hji23x : (ji21) ≤ 64 → (wrap64 (1 * 2 ^ (ji21).toNat)) = ji23 := fun h_ => (i64_w _).symm.trans (hji23z h_)
                        have H' := Aside0.mk H
                        clear H
                        have p595 : 0 ≤ (0 : Int) := (by omega)
                        have q595 : 0 < (t590.length : Int) := of_decide_eq_true (by first | (with_reducible assumption) | assumption)
                        obtain ⟨ad595, e595, hx595_0⟩ := Kd.at_string (Kd.R_reads' HO_4.out).2.2 0 p595 q595
                        cases e595
                        have qi595 : (0 < t590.length) = True := eq_true (by omega)
                        (try rw [show ((0 : Int)).toNat = 0 from rfl] at hx595_0)
                        (try rw [Addr.add_zero'] at hx595_0)
                        replace p595 := eq_true p595
                        replace q595 := eq_true q595
                        have p19 : 0 ≤ (x6_2 : Int) := of_decide_eq_true (by first | (with_reducible assumption) | assumption)
                        have q19 : x6_2 < ((rdOf ByteArray.empty t590 0).size : Int) := of_decide_eq_true (by first | (with_reducible assumption) | assumption)
                        have hx19 := bt_at (rdOf ByteArray.empty t590 0) x6_2
                        replace p19 := eq_true p19
                        replace q19 := eq_true q19
                        have hnb24 := NB593_589.out
                        have hnc24 := NB589_593.out
                        obtain ⟨hcz25_0, hcz25_1, hcz25_2, hcz25_3⟩ := zc4 BK593
                        obtain ⟨hfz25_0, hfz25_1, hfz25_2, hfz25_3⟩ := zf4 BK593
                        go_wp2
                        go_roundg k2
                        case measure => have := HJ2.out; have := HK2.out; omega
                        case rel => exact ⟨(wrap64 (x6_2 + 1)), (Go.bits .or .i64 x594002_2 (ji23)), (x594003_2), (zF), H', ⟨by have := HJ2.out; have := HK2.out; omega⟩, ⟨zRm (Kd.R_far (p := ⟨gb593, 2, none⟩) (Kd.R_types HO_4.out BK593.out (by decide)) (fun _ hk => hk.2) (.int .i64 (Go.bits .or .i64 x594002_2 (ji23)))) (fun _ hk => trivial)⟩, ⟨zQ1 BK589.out NB589_593.out⟩, ⟨zQ BK593.out⟩, ⟨zH2 HB.out GE589.out GE593.out⟩⟩
                      · rw [if_neg c22] at H
                        exact absurd H (by simp)
                    · rw [if_neg c20] at H
                      have c20b0 := zq3 c20
                      have c20b1 := zq4 c20
                      by_cases c26 : (bt (rdOf ByteArray.empty t590 0) x6_2) = 98
                      · rw [if_pos c26] at H
                        have c26b0 := zq1 c26
                        have c26b1 := zq2 c26
                        clear c26
                        obtain ⟨ji27, hji27⟩ := zj (IntKind.u64.wrap (x6_2))
                        (first | rw [hji27] at H | simp only [hji27] at H)
                        by_cases c28 : 0 ≤ (ji27)
                        · rw [if_pos c28] at H
                          have c28b0 := eq_true c28
                          have c28b1 := decide_eq_true c28
                          clear c28
                          obtain ⟨ji29, hji29⟩ := zj (shl .i64 1 (ji27))
                          (first | rw [hji29] at H | simp only [hji29] at H)
                          have hji29_ : (IntKind.i64.wrap (1 * 2 ^ min (ji27).toNat 64)) = ji29 := hji29
                          have hji29z : (ji27) ≤ 64 → (IntKind.i64.wrap (1 * 2 ^ (ji27).toNat)) = ji29 := shl_small hji29
                          have hji29u : (IntKind.i64.wrap (2 ^ min (ji27).toNat 64)) = ji29 := by have h_ := hji29_; rw [Int.one_mul] at h_; exact h_
                          have hji29v : (ji27) ≤ 64 → (IntKind.i64.wrap (2 ^ (ji27).toNat)) = ji29 := fun hle_ => by have h_ := hji29z hle_; rw [Int.one_mul] at h_; exact h_
                          have hji29y : (wrap64 (1 * 2 ^ min (ji27).toNat 64)) = ji29 := (i64_w _).symm.trans hji29_
                          have hji29x : (ji27) ≤ 64 → (wrap64 (1 * 2 ^ (ji27).toNat)) = ji29 := fun h_ => (i64_w _).symm.trans (hji29z h_)
                          have H' := Aside0.mk H
                          clear H
                          have p595 : 0 ≤ (0 : Int) := (by omega)
                          have q595 : 0 < (t590.length : Int) := of_decide_eq_true (by first | (with_reducible assumption) | assumption)
                          obtain ⟨ad595, e595, hx595_0⟩ := Kd.at_string (Kd.R_reads' HO_4.out).2.2 0 p595 q595
                          cases e595
                          have qi595 : (0 < t590.length) = True := eq_true (by omega)
                          (try rw [show ((0 : Int)).toNat = 0 from rfl] at hx595_0)
                          (try rw [Addr.add_zero'] at hx595_0)
                          replace p595 := eq_true p595
                          replace q595 := eq_true q595
                          have p19 : 0 ≤ (x6_2 : Int) := of_decide_eq_true (by first | (with_reducible assumption) | assumption)
                          have q19 : x6_2 < ((rdOf ByteArray.empty t590 0).size : Int) := of_decide_eq_true (by first | (with_reducible assumption) | assumption)
                          have hx19 := bt_at (rdOf ByteArray.empty t590 0) x6_2
                          replace p19 := eq_true p19
                          replace q19 := eq_true q19
                          have hnb30 := NB593_589.out
                          have hnc30 := NB589_593.out
                          obtain ⟨hcz31_0, hcz31_1, hcz31_2, hcz31_3⟩ := zc4 BK593
                          obtain ⟨hfz31_0, hfz31_1, hfz31_2, hfz31_3⟩ := zf4 BK593
                          go_wp2
                          go_roundg k2
                          case measure => have := HJ2.out; have := HK2.out; omega
                          case rel => exact ⟨(wrap64 (x6_2 + 1)), (x594002_2), (Go.bits .or .i64 x594003_2 (ji29)), (zF), H', ⟨by have := HJ2.out; have := HK2.out; omega⟩, ⟨zRm (Kd.R_far (p := ⟨gb593, 3, none⟩) (Kd.R_types HO_4.out BK593.out (by decide)) (fun _ hk => hk.2) (.int .i64 (Go.bits .or .i64 x594003_2 (ji29)))) (fun _ hk => trivial)⟩, ⟨zQ1 BK589.out NB589_593.out⟩, ⟨zQ BK593.out⟩, ⟨zH2 HB.out GE589.out GE593.out⟩⟩
                        · rw [if_neg c28] at H
                          exact absurd H (by simp)
                      · rw [if_neg c26] at H
                        have c26b0 := zq3 c26
                        have c26b1 := zq4 c26
                        have H' := Aside0.mk H
                        clear H
                        have p595 : 0 ≤ (0 : Int) := (by omega)
                        have q595 : 0 < (t590.length : Int) := of_decide_eq_true (by first | (with_reducible assumption) | assumption)
                        obtain ⟨ad595, e595, hx595_0⟩ := Kd.at_string (Kd.R_reads' HO_4.out).2.2 0 p595 q595
                        cases e595
                        have qi595 : (0 < t590.length) = True := eq_true (by omega)
                        (try rw [show ((0 : Int)).toNat = 0 from rfl] at hx595_0)
                        (try rw [Addr.add_zero'] at hx595_0)
                        replace p595 := eq_true p595
                        replace q595 := eq_true q595
                        have p19 : 0 ≤ (x6_2 : Int) := of_decide_eq_true (by first | (with_reducible assumption) | assumption)
                        have q19 : x6_2 < ((rdOf ByteArray.empty t590 0).size : Int) := of_decide_eq_true (by first | (with_reducible assumption) | assumption)
                        have hx19 := bt_at (rdOf ByteArray.empty t590 0) x6_2
                        replace p19 := eq_true p19
                        replace q19 := eq_true q19
                        go_wp2
                        go_roundg k2
                        case measure => have := HJ2.out; have := HK2.out; omega
                        case rel => exact ⟨(wrap64 (x6_2 + 1)), (x594002_2), (x594003_2), (zF), H', ⟨by have := HJ2.out; have := HK2.out; omega⟩, ⟨zR HO_4.out⟩, ⟨zB BK589.out⟩, ⟨zB BK593.out⟩, ⟨zH2 HB.out GE589.out GE593.out⟩⟩
                  · rw [if_neg c18] at H
                    exact absurd H (by simp)
                · rw [if_neg c17] at H
                  exact absurd H (by simp)
              · rw [if_neg c16] at H
                exact absurd H (by simp)
            · rw [if_neg c15] at H
              have c15b0 := decide_eq_false c15
              clear c15
              have H' := Aside0.mk H
              clear H
              go_wp2
              go_loopg [7] k2 (fun kq v7 w' => ∃ (x7_3 : Int) (x594001_3 : Int), v7 = .int .i64 x7_3 ∧ Aside0 (spec_l05Read.l1 kq a0 t590 x7_3 (t590.length : Int) x594001_3 x594002_2 x594003_2 = some (r1, r2, r3, r4, r5)) ∧ Aside0 (kq ≤ k2) ∧ Aside0 (Kd.R Kd.string 9 w' w.heap.size (fun _ => True) (.slice Ao6 t590.length co6) t590) ∧ Aside0 (w'.heap[gb589]? = some (.cells #[.int .i64 0, .int .i64 0, .int .i64 0, .int .i64 0] 25 (0, 0))) ∧ Aside0 (w'.heap[gb593]? = some (.cells #[.int .i64 (t590.length : Int), .int .i64 x594001_3, .int .i64 x594002_2, .int .i64 x594003_2] 25 (0, 0))) ∧ Aside0 (Below w.heap.size w w'))
              case atStart => exact ⟨(1), (0), (zF), H', ⟨Nat.le_refl _⟩, ⟨zR HO_4.out⟩, ⟨zB BK589.out⟩, ⟨zB BK593.out⟩, ⟨zH2 HB.out GE589.out GE593.out⟩⟩
              case round =>
                clear H'
                try clear c1
                try clear p1
                try clear q1
                try clear hx1
                try clear c2
                try clear p2
                try clear c3
                try clear p5
                try clear q5
                try clear hx5
                try clear qi5
                try clear c6
                try clear p6
                try clear c7
                try clear c8
                try clear c10
                try clear c10b0
                try clear c10b1
                try clear c11
                try clear c11b0
                try clear c11b1
                try clear c12
                try clear c13
                try clear c15
                try clear c15b0
                try clear c16
                try clear c16b0
                try clear c16b1
                try clear c17
                try clear c17b0
                try clear c18
                try clear c18b0
                try clear p19
                try clear q19
                try clear hx19
                try clear c20
                try clear c20b0
                try clear c20b1
                try clear c22
                try clear c22b0
                try clear c22b1
                try clear c24
                try clear c26
                try clear c26b0
                try clear c26b1
                try clear c28
                try clear c28b0
                try clear c28b1
                try clear c30
                try clear hcz14_0
                try clear hcz14_1
                try clear hcz14_2
                try clear hcz14_3
                try clear hcz25_0
                try clear hcz25_1
                try clear hcz25_2
                try clear hcz25_3
                try clear hcz31_0
                try clear hcz31_1
                try clear hcz31_2
                try clear hcz31_3
                try clear hcz9_0
                try clear hcz9_1
                try clear hcz9_2
                try clear hcz9_3
                try clear hfz14_0
                try clear hfz14_1
                try clear hfz14_2
                try clear hfz14_3
                try clear hfz25_0
                try clear hfz25_1
                try clear hfz25_2
                try clear hfz25_3
                try clear hfz31_0
                try clear hfz31_1
                try clear hfz31_2
                try clear hfz31_3
                try clear hfz9_0
                try clear hfz9_1
                try clear hfz9_2
                try clear hfz9_3
                try clear hx594_0
                try clear hx595_0
                try clear p19
                try clear p2
                try clear p5
                try clear p594
                try clear p595
                try clear q19
                try clear q5
                try clear q594
                try clear q595
                obtain ⟨x7_3, x594001_3, rfl, HA, HK3, HO_4, BK589, BK593, HB⟩ := hrel
                cases gk with
                | zero => exact absurd HA.out (by simp [spec_l05Read.l1])
                | succ k3 =>
                  have H := HA.out
                  clear HA
                  simp only [spec_l05Read.l1] at H
                  by_cases c32 : x7_3 < (t590.length : Int)
                  · rw [if_pos c32] at H
                    have c32b0 := decide_eq_true c32
                    clear c32
                    have H' := Aside0.mk H
                    clear H
                    go_wp2
                    go_loopg [8] k3 (fun kq v8 w' => ∃ (x8_4 : Int) (x594001_4 : Int), v8 = .int .i64 x8_4 ∧ Aside0 (spec_l05Read.l2 kq a0 t590 x7_3 x8_4 (t590.length : Int) x594001_4 x594002_2 x594003_2 = some (r1, r2, r3, r4, r5)) ∧ Aside0 (kq ≤ k3) ∧ Aside0 (Kd.R Kd.string 9 w' w.heap.size (fun _ => True) (.slice Ao6 t590.length co6) t590) ∧ Aside0 (w'.heap[gb589]? = some (.cells #[.int .i64 0, .int .i64 0, .int .i64 0, .int .i64 0] 25 (0, 0))) ∧ Aside0 (w'.heap[gb593]? = some (.cells #[.int .i64 (t590.length : Int), .int .i64 x594001_4, .int .i64 x594002_2, .int .i64 x594003_2] 25 (0, 0))) ∧ Aside0 (Below w.heap.size w w'))
                    case atStart => exact ⟨(0), (x594001_3), (zF), H', ⟨Nat.le_refl _⟩, ⟨zR HO_4.out⟩, ⟨zB BK589.out⟩, ⟨zB BK593.out⟩, ⟨zH2 HB.out GE589.out GE593.out⟩⟩
                    case round =>
                      clear H'
                      try clear c1
                      try clear p1
                      try clear q1
                      try clear hx1
                      try clear c2
                      try clear p2
                      try clear c3
                      try clear p5
                      try clear q5
                      try clear hx5
                      try clear qi5
                      try clear c6
                      try clear p6
                      try clear c7
                      try clear c8
                      try clear c10
                      try clear c10b0
                      try clear c10b1
                      try clear c11
                      try clear c11b0
                      try clear c11b1
                      try clear c12
                      try clear c13
                      try clear c15
                      try clear c15b0
                      try clear c16
                      try clear c16b0
                      try clear c16b1
                      try clear c17
                      try clear c17b0
                      try clear c18
                      try clear c18b0
                      try clear p19
                      try clear q19
                      try clear hx19
                      try clear c20
                      try clear c20b0
                      try clear c20b1
                      try clear c22
                      try clear c22b0
                      try clear c22b1
                      try clear c24
                      try clear c26
                      try clear c26b0
                      try clear c26b1
                      try clear c28
                      try clear c28b0
                      try clear c28b1
                      try clear c30
                      try clear c32
                      try clear c32b0
                      try clear hcz14_0
                      try clear hcz14_1
                      try clear hcz14_2
                      try clear hcz14_3
                      try clear hcz25_0
                      try clear hcz25_1
                      try clear hcz25_2
                      try clear hcz25_3
                      try clear hcz31_0
                      try clear hcz31_1
                      try clear hcz31_2
                      try clear hcz31_3
                      try clear hcz9_0
                      try clear hcz9_1
                      try clear hcz9_2
                      try clear hcz9_3
                      try clear hfz14_0
                      try clear hfz14_1
                      try clear hfz14_2
                      try clear hfz14_3
                      try clear hfz25_0
                      try clear hfz25_1
                      try clear hfz25_2
                      try clear hfz25_3
                      try clear hfz31_0
                      try clear hfz31_1
                      try clear hfz31_2
                      try clear hfz31_3
                      try clear hfz9_0
                      try clear hfz9_1
                      try clear hfz9_2
                      try clear hfz9_3
                      try clear hx594_0
                      try clear hx595_0
                      try clear p1
                      try clear p19
                      try clear p2
                      try clear p5
                      try clear p594
                      try clear p595
                      try clear p6
                      try clear q1
                      try clear q19
                      try clear q5
                      try clear q594
                      try clear q595
                      obtain ⟨x8_4, x594001_4, rfl, HA, HK4, HO_4, BK589, BK593, HB⟩ := hrel
                      cases gk with
                      | zero => exact absurd HA.out (by simp [spec_l05Read.l2])
                      | succ k4 =>
                        have H := HA.out
                        clear HA
                        simp only [spec_l05Read.l2] at H
                        have HC33 := Aside0.mk H
                        clear H
                        go_upto_region 17 with (fail)
                        go_cut [73] (fun v73 wc => ∃ (kq : Nat) (x73_32 : Bool), v73 = .bool x73_32 ∧ Aside0 (spec_l05Read.j4 kq a0 t590 x7_3 x8_4 x73_32 (t590.length : Int) x594001_4 x594002_2 x594003_2 = some (r1, r2, r3, r4, r5)) ∧ Aside0 (kq ≤ k4) ∧ Aside0 (Kd.R Kd.string 9 wc w.heap.size (fun _ => True) (.slice Ao6 t590.length co6) t590) ∧ Aside0 (wc.heap[gb589]? = some (.cells #[.int .i64 0, .int .i64 0, .int .i64 0, .int .i64 0] 25 (0, 0))) ∧ Aside0 (wc.heap[gb593]? = some (.cells #[.int .i64 (t590.length : Int), .int .i64 x594001_4, .int .i64 x594002_2, .int .i64 x594003_2] 25 (0, 0))) ∧ Aside0 (Below w.heap.size w wc))
                        case first =>
                          have H := HC33.out
                          clear HC33
                          by_cases c34 : x8_4 < x7_3
                          · rw [if_pos c34] at H
                            have c34b0 := decide_eq_true c34
                            clear c34
                            (first | rw [c34b0] | (simp only [i64_w, i32_w]; rw [c34b0]) | skip)
                            by_cases c35 : 0 ≤ x7_3
                            · rw [if_pos c35] at H
                              have c35b0 := decide_eq_true c35
                              clear c35
                              by_cases c36 : x7_3 < (t590.length : Int)
                              · rw [if_pos c36] at H
                                have c36b0 := decide_eq_true c36
                                clear c36
                                have H' := Aside0.mk H
                                clear H
                                have p597 : 0 ≤ (x7_3 : Int) := of_decide_eq_true (by first | (with_reducible assumption) | assumption)
                                have q597 : x7_3 < (t590.length : Int) := of_decide_eq_true (by first | (with_reducible assumption) | assumption)
                                obtain ⟨ad597, e597, hx597_0⟩ := Kd.at_string (Kd.R_reads' HO_4.out).2.2 x7_3 p597 q597
                                cases e597
                                replace p597 := eq_true p597
                                replace q597 := eq_true q597
                                go_wp2
                                go_meet
                                case rel => exact ⟨_, ((((rdOf ByteArray.empty t590 x7_3).size : Int) == x7_3)), (zF), H', ⟨by have := HJ2.out; have := HK2.out; have := HK3.out; have := HK4.out; first | omega | exact Nat.le_refl _⟩, ⟨zR HO_4.out⟩, ⟨zB BK589.out⟩, ⟨zB BK593.out⟩, ⟨zH2 HB.out GE589.out GE593.out⟩⟩
                              · rw [if_neg c36] at H
                                exact absurd H (by simp)
                            · rw [if_neg c35] at H
                              exact absurd H (by simp)
                          · rw [if_neg c34] at H
                            have c34b0 := decide_eq_false c34
                            clear c34
                            (first | rw [c34b0] | (simp only [i64_w, i32_w]; rw [c34b0]) | skip)
                            have H' := Aside0.mk H
                            clear H
                            go_wp2
                            go_meet
                            case rel => exact ⟨_, (false), (zF), H', ⟨by have := HJ2.out; have := HK2.out; have := HK3.out; have := HK4.out; first | omega | exact Nat.le_refl _⟩, ⟨zR HO_4.out⟩, ⟨zB BK589.out⟩, ⟨zB BK593.out⟩, ⟨zH2 HB.out GE589.out GE593.out⟩⟩
                        case rest =>
                          clear HC33
                          try clear c1
                          try clear p1
                          try clear q1
                          try clear hx1
                          try clear c2
                          try clear p2
                          try clear c3
                          try clear p5
                          try clear q5
                          try clear hx5
                          try clear qi5
                          try clear c6
                          try clear p6
                          try clear c7
                          try clear c8
                          try clear c10
                          try clear c10b0
                          try clear c10b1
                          try clear c11
                          try clear c11b0
                          try clear c11b1
                          try clear c12
                          try clear c13
                          try clear c15
                          try clear c15b0
                          try clear c16
                          try clear c16b0
                          try clear c16b1
                          try clear c17
                          try clear c17b0
                          try clear c18
                          try clear c18b0
                          try clear p19
                          try clear q19
                          try clear hx19
                          try clear c20
                          try clear c20b0
                          try clear c20b1
                          try clear c22
                          try clear c22b0
                          try clear c22b1
                          try clear c24
                          try clear c26
                          try clear c26b0
                          try clear c26b1
                          try clear c28
                          try clear c28b0
                          try clear c28b1
                          try clear c30
                          try clear c32
                          try clear c32b0
                          try clear c34
                          try clear c34b0
                          try clear c35
                          try clear c35b0
                          try clear c36
                          try clear c36b0
                          try clear hcz14_0
                          try clear hcz14_1
                          try clear hcz14_2
                          try clear hcz14_3
                          try clear hcz25_0
                          try clear hcz25_1
                          try clear hcz25_2
                          try clear hcz25_3
                          try clear hcz31_0
                          try clear hcz31_1
                          try clear hcz31_2
                          try clear hcz31_3
                          try clear hcz9_0
                          try clear hcz9_1
                          try clear hcz9_2
                          try clear hcz9_3
                          try clear hfz14_0
                          try clear hfz14_1
                          try clear hfz14_2
                          try clear hfz14_3
                          try clear hfz25_0
                          try clear hfz25_1
                          try clear hfz25_2
                          try clear hfz25_3
                          try clear hfz31_0
                          try clear hfz31_1
                          try clear hfz31_2
                          try clear hfz31_3
                          try clear hfz9_0
                          try clear hfz9_1
                          try clear hfz9_2
                          try clear hfz9_3
                          try clear hx594_0
                          try clear hx595_0
                          try clear hx597_0
                          try clear p1
                          try clear p19
                          try clear p2
                          try clear p5
                          try clear p594
                          try clear p595
                          try clear p597
                          try clear p6
                          try clear q1
                          try clear q19
                          try clear q5
                          try clear q594
                          try clear q595
                          try clear q597
                          obtain ⟨kq, x73_32, rfl, HA, HJ32, HO_4, BK589, BK593, HB⟩ := hcut
                          cases kq with
                          | zero => exact absurd HA.out (by simp [spec_l05Read.j4])
                          | succ kj32 =>
                            have H := HA.out
                            clear HA
                            simp only [spec_l05Read.j4] at H
                            by_cases c37 : x73_32 = true
                            · subst c37
                              have H1 : (if 0 ≤ x7_3 then (if x7_3 < (t590.length : Int) then (if 0 ≤ x8_4 then (if x8_4 < ((rdOf ByteArray.empty t590 x7_3).size : Int) then (if (bt (rdOf ByteArray.empty t590 x7_3) x8_4) = 49 then (if 0 ≤ (IntKind.u64.wrap (wrap64 ((wrap64 (Int.tdiv (wrap64 (x7_3 * (wrap64 (x7_3 - 1)))) 2)) + x8_4))) then (spec_l05Read.l2 kj32 a0 t590 x7_3 (wrap64 (x8_4 + 1)) (t590.length : Int) (Go.bits .or .i64 x594001_4 (shl .i64 1 (IntKind.u64.wrap (wrap64 ((wrap64 (Int.tdiv (wrap64 (x7_3 * (wrap64 (x7_3 - 1)))) 2)) + x8_4))))) x594002_2 x594003_2) else (none)) else (spec_l05Read.l2 kj32 a0 t590 x7_3 (wrap64 (x8_4 + 1)) (t590.length : Int) x594001_4 x594002_2 x594003_2)) else (none)) else (none)) else (none)) else (none)) = some (r1, r2, r3, r4, r5) := by rw [if_pos rfl] at H; exact H
                              clear H
                              have H := H1
                              clear H1
                              by_cases c38 : 0 ≤ x7_3
                              · rw [if_pos c38] at H
                                have c38b0 := decide_eq_true c38
                                clear c38
                                by_cases c39 : x7_3 < (t590.length : Int)
                                · rw [if_pos c39] at H
                                  have c39b0 := decide_eq_true c39
                                  clear c39
                                  by_cases c40 : 0 ≤ x8_4
                                  · rw [if_pos c40] at H
                                    have c40b0 := decide_eq_true c40
                                    clear c40
                                    by_cases c41 : x8_4 < ((rdOf ByteArray.empty t590 x7_3).size : Int)
                                    · rw [if_pos c41] at H
                                      have c41b0 := decide_eq_true c41
                                      clear c41
                                      by_cases c43 : (bt (rdOf ByteArray.empty t590 x7_3) x8_4) = 49
                                      · rw [if_pos c43] at H
                                        have c43b0 := zq1 c43
                                        have c43b1 := zq2 c43
                                        clear c43
                                        obtain ⟨ji44, hji44⟩ := zj (IntKind.u64.wrap (wrap64 ((wrap64 (Int.tdiv (wrap64 (x7_3 * (wrap64 (x7_3 - 1)))) 2)) + x8_4)))
                                        (first | rw [hji44] at H | simp only [hji44] at H)
                                        by_cases c45 : 0 ≤ (ji44)
                                        · rw [if_pos c45] at H
                                          have c45b0 := eq_true c45
                                          have c45b1 := decide_eq_true c45
                                          clear c45
                                          obtain ⟨ji46, hji46⟩ := zj (shl .i64 1 (ji44))
                                          (first | rw [hji46] at H | simp only [hji46] at H)
                                          have hji46_ : (IntKind.i64.wrap (1 * 2 ^ min (ji44).toNat 64)) = ji46 := hji46
                                          have hji46z : (ji44) ≤ 64 → (IntKind.i64.wrap (1 * 2 ^ (ji44).toNat)) = ji46 := shl_small hji46
                                          have hji46u : (IntKind.i64.wrap (2 ^ min (ji44).toNat 64)) = ji46 := by have h_ := hji46_; rw [Int.one_mul] at h_; exact h_
                                          have hji46v : (ji44) ≤ 64 → (IntKind.i64.wrap (2 ^ (ji44).toNat)) = ji46 := fun hle_ => by have h_ := hji46z hle_; rw [Int.one_mul] at h_; exact h_
                                          have hji46y : (wrap64 (1 * 2 ^ min (ji44).toNat 64)) = ji46 := (i64_w _).symm.trans hji46_
                                          have hji46x : (ji44) ≤ 64 → (wrap64 (1 * 2 ^ (ji44).toNat)) = ji46 := fun h_ => (i64_w _).symm.trans (hji46z h_)
                                          have H' := Aside0.mk H
                                          clear H
                                          have p598 : 0 ≤ (x7_3 : Int) := of_decide_eq_true (by first | (with_reducible assumption) | assumption)
                                          have q598 : x7_3 < (t590.length : Int) := of_decide_eq_true (by first | (with_reducible assumption) | assumption)
                                          obtain ⟨ad598, e598, hx598_0⟩ := Kd.at_string (Kd.R_reads' HO_4.out).2.2 x7_3 p598 q598
                                          cases e598
                                          replace p598 := eq_true p598
                                          replace q598 := eq_true q598
                                          have p42 : 0 ≤ (x8_4 : Int) := of_decide_eq_true (by first | (with_reducible assumption) | assumption)
                                          have q42 : x8_4 < ((rdOf ByteArray.empty t590 x7_3).size : Int) := of_decide_eq_true (by first | (with_reducible assumption) | assumption)
                                          have hx42 := bt_at (rdOf ByteArray.empty t590 x7_3) x8_4
                                          replace p42 := eq_true p42
                                          replace q42 := eq_true q42
                                          have hnb47 := NB593_589.out
                                          have hnc47 := NB589_593.out
                                          obtain ⟨hcz48_0, hcz48_1, hcz48_2, hcz48_3⟩ := zc4 BK593
                                          obtain ⟨hfz48_0, hfz48_1, hfz48_2, hfz48_3⟩ := zf4 BK593
                                          go_wp2
                                          go_roundg kj32
                                          case measure => have := HJ2.out; have := HK2.out; have := HK3.out; have := HK4.out; have := HJ32.out; omega
                                          case rel => exact ⟨(wrap64 (x8_4 + 1)), (Go.bits .or .i64 x594001_4 (ji46)), (zF), H', ⟨by have := HJ2.out; have := HK2.out; have := HK3.out; have := HK4.out; have := HJ32.out; omega⟩, ⟨zRm (Kd.R_far (p := ⟨gb593, 1, none⟩) (Kd.R_types HO_4.out BK593.out (by decide)) (fun _ hk => hk.2) (.int .i64 (Go.bits .or .i64 x594001_4 (ji46)))) (fun _ hk => trivial)⟩, ⟨zQ1 BK589.out NB589_593.out⟩, ⟨zQ BK593.out⟩, ⟨zH2 HB.out GE589.out GE593.out⟩⟩
                                        · rw [if_neg c45] at H
                                          exact absurd H (by simp)
                                      · rw [if_neg c43] at H
                                        have c43b0 := zq3 c43
                                        have c43b1 := zq4 c43
                                        have H' := Aside0.mk H
                                        clear H
                                        have p598 : 0 ≤ (x7_3 : Int) := of_decide_eq_true (by first | (with_reducible assumption) | assumption)
                                        have q598 : x7_3 < (t590.length : Int) := of_decide_eq_true (by first | (with_reducible assumption) | assumption)
                                        obtain ⟨ad598, e598, hx598_0⟩ := Kd.at_string (Kd.R_reads' HO_4.out).2.2 x7_3 p598 q598
                                        cases e598
                                        replace p598 := eq_true p598
                                        replace q598 := eq_true q598
                                        have p42 : 0 ≤ (x8_4 : Int) := of_decide_eq_true (by first | (with_reducible assumption) | assumption)
                                        have q42 : x8_4 < ((rdOf ByteArray.empty t590 x7_3).size : Int) := of_decide_eq_true (by first | (with_reducible assumption) | assumption)
                                        have hx42 := bt_at (rdOf ByteArray.empty t590 x7_3) x8_4
                                        replace p42 := eq_true p42
                                        replace q42 := eq_true q42
                                        go_wp2
                                        go_roundg kj32
                                        case measure => have := HJ2.out; have := HK2.out; have := HK3.out; have := HK4.out; have := HJ32.out; omega
                                        case rel => exact ⟨(wrap64 (x8_4 + 1)), (x594001_4), (zF), H', ⟨by have := HJ2.out; have := HK2.out; have := HK3.out; have := HK4.out; have := HJ32.out; omega⟩, ⟨zR HO_4.out⟩, ⟨zB BK589.out⟩, ⟨zB BK593.out⟩, ⟨zH2 HB.out GE589.out GE593.out⟩⟩
                                    · rw [if_neg c41] at H
                                      exact absurd H (by simp)
                                  · rw [if_neg c40] at H
                                    exact absurd H (by simp)
                                · rw [if_neg c39] at H
                                  exact absurd H (by simp)
                              · rw [if_neg c38] at H
                                exact absurd H (by simp)
                            · replace c37 := Bool.eq_false_iff.mpr c37
                              subst c37
                              have H1 : (spec_l05Read.l1 kj32 a0 t590 (wrap64 (x7_3 + 1)) (t590.length : Int) x594001_4 x594002_2 x594003_2) = some (r1, r2, r3, r4, r5) := by rw [if_neg (show ¬ (false = true) by decide)] at H; exact H
                              clear H
                              have H := H1
                              clear H1
                              have H' := Aside0.mk H
                              clear H
                              go_wp2
                              go_roundg kj32
                              case measure => have := HJ2.out; have := HK2.out; have := HK3.out; have := HK4.out; have := HJ32.out; omega
                              case rel => exact ⟨(wrap64 (x7_3 + 1)), (x594001_4), (zF), H', ⟨by have := HJ2.out; have := HK2.out; have := HK3.out; have := HK4.out; have := HJ32.out; omega⟩, ⟨zR HO_4.out⟩, ⟨zB BK589.out⟩, ⟨zB BK593.out⟩, ⟨zH2 HB.out GE589.out GE593.out⟩⟩
                  · rw [if_neg c32] at H
                    have c32b0 := decide_eq_false c32
                    clear c32
                    obtain ⟨t596, A49, H⟩ := zb H
                    simp only [Option.some.injEq, Prod.mk.injEq] at H
                    obtain ⟨rfl, rfl, rfl, rfl, rfl⟩ := H
                    try go_wp2
                    refine zA4 (Kd.R_drew HO_4.out) (blk_drew BK589.out) (blk_drew BK593.out) (below_drew1 HB.out) ?_
                    clear HO_4 BK589 BK593 HB
                    intro HO_4 BK589 BK593 HB
                    refine start_ (n := 7) (S := fun w' => w'.cell? ⟨gb593, 0, none⟩ = some (.int .i64 (t590.length : Int)) ∧ w'.cell? ⟨gb593, 1, none⟩ = some (.int .i64 x594001_3) ∧ w'.cell? ⟨gb593, 2, none⟩ = some (.int .i64 x594002_2) ∧ w'.cell? ⟨gb593, 3, none⟩ = some (.int .i64 x594003_2)) (ds := []) #[false, false, false, false, false, false, false] (by kernel_rfl) rfl rfl ⟨(blk_cell BK593.out 0).trans rfl, (blk_cell BK593.out 1).trans rfl, (blk_cell BK593.out 2).trans rfl, (blk_cell BK593.out 3).trans rfl⟩ (fun hHeld => ?_)
                    generalize wr.drew = w50 at HO_4 BK589 BK593 HB hHeld ⊢
                    refine pure_ (i := 3) (N := some 99) (v := ?_) (a' := ?_) #[false, false, false, true, false, false, false] rfl rfl (by kernel_rfl) (fun _ _ _ h => h) (Or.inl ⟨by rfl, ?_⟩) ?_ ?_
                    rotate_left
                    · intro w'
                      go_simp
                      with_reducible rfl
                    rotate_left
                    · simp only [Act.put, List.setIfInBounds_toArray, List.set_cons_zero, List.set_cons_succ, i64_w, i32_w]
                      rfl
                    refine take_ (i := 0) (N := some 96) (v := ?_) (a' := ?_) #[true, false, false, true, false, false, false] rfl rfl (by kernel_rfl) (fun _ _ _ h => h) (Or.inl ⟨by rfl, ?_⟩) hHeld ?_ ?_
                    rotate_left
                    · rintro w' ⟨s0, s1, s2, s3⟩
                      go_simp
                      with_reducible rfl
                    rotate_left
                    · simp only [Act.put, List.setIfInBounds_toArray, List.set_cons_zero, List.set_cons_succ, i64_w, i32_w]
                      rfl
                    refine take_ (i := 1) (N := some 97) (v := ?_) (a' := ?_) #[true, true, false, true, false, false, false] rfl rfl (by kernel_rfl) (fun _ _ _ h => h) (Or.inl ⟨by rfl, ?_⟩) hHeld ?_ ?_
                    rotate_left
                    · rintro w' ⟨s0, s1, s2, s3⟩
                      go_simp
                      with_reducible rfl
                    rotate_left
                    · simp only [Act.put, List.setIfInBounds_toArray, List.set_cons_zero, List.set_cons_succ, i64_w, i32_w]
                      rfl
                    refine one_ (i := 2) (N := some 98) #[true, true, true, true, false, false, false] rfl rfl (by kernel_rfl) (by decide) (fun K hK => ?_)
                    refine goes_ Tryz.func63 (by kernel_rfl) rfl #[.agg #[.int .i64 (t590.length : Int), .int .i64 x594001_3, .int .i64 x594002_2, .int .i64 x594003_2]] (by rfl) rfl rfl zM ?_
                    with_reducible refine (spec_l05Text.calls k3 (t590.length : Int) x594001_3 x594002_2 x594003_2 t596 _ A49.out).mono ?_
                    rintro e w51 ⟨rfl, hb⟩
                    refine ⟨_, rfl, ?_⟩
                    refine zA4 (Kd.R_below (zR HO_4.out) hb) (zY BK589.out hb) (zY BK593.out hb) (below_step (zH2 HB.out GE589.out GE593.out) hb) ?_
                    clear HO_4 BK589 BK593 HB
                    intro HO_4 BK589 BK593 HB
                    (try clear hb)
                    (try clear hb2)
                    (try clear hk)
                    (try clear hi)
                    refine hK.out _ _ ⟨(blk_cell BK593.out 0).trans rfl, (blk_cell BK593.out 1).trans rfl, (blk_cell BK593.out 2).trans rfl, (blk_cell BK593.out 3).trans rfl⟩ (fun hHeld => ?_)
                    clear hK K
                    refine zW (some 98) ?_
                    refine pure_ (i := 4) (N := some 100) (v := ?_) (a' := ?_) #[true, true, true, true, true, false, false] rfl rfl (by kernel_rfl) (fun _ _ _ h => h) (Or.inl ⟨by rfl, ?_⟩) ?_ ?_
                    rotate_left
                    · intro w'
                      go_simp
                      with_reducible rfl
                    rotate_left
                    · simp only [Act.put, List.setIfInBounds_toArray, List.set_cons_zero, List.set_cons_succ, i64_w, i32_w]
                      rfl
                    refine one_ (i := 5) (N := none) #[true, true, true, true, true, true, false] rfl rfl (by kernel_rfl) (by decide) (fun K hK => ?_)
                    have hs52 : w51.cell? ⟨gb589, 0, none⟩ = some (.int .i64 0) := (blk_cell BK589.out 0).trans rfl
                    have hfs52 := blk_frozen BK589.out 0
                    have hns52_1 := NB593_589.out
                    have hms52_1 := NB589_593.out
                    have hs53 : w51.cell? ⟨gb589, 1, none⟩ = some (.int .i64 0) := (blk_cell BK589.out 1).trans rfl
                    have hfs53 := blk_frozen BK589.out 1
                    have hns53_1 := NB593_589.out
                    have hms53_1 := NB589_593.out
                    have hs54 : w51.cell? ⟨gb589, 2, none⟩ = some (.int .i64 0) := (blk_cell BK589.out 2).trans rfl
                    have hfs54 := blk_frozen BK589.out 2
                    have hns54_1 := NB593_589.out
                    have hms54_1 := NB589_593.out
                    have hs55 : w51.cell? ⟨gb589, 3, none⟩ = some (.int .i64 0) := (blk_cell BK589.out 3).trans rfl
                    have hfs55 := blk_frozen BK589.out 3
                    have hns55_1 := NB593_589.out
                    have hms55_1 := NB589_593.out
                    refine skip_ (w1 := ?_) (by rfl) rfl ?_ ?_
                    rotate_left
                    · go_simp
                      rfl
                    refine hK.out _ _ ⟨((cell_far (p := ⟨gb589, _, none⟩) NB593_589.out _).trans (((cell_far (p := ⟨gb589, _, none⟩) NB593_589.out _).trans (((cell_far (p := ⟨gb589, _, none⟩) NB593_589.out _).trans (((cell_far (p := ⟨gb589, _, none⟩) NB593_589.out _).trans (hHeld.1)))))))), ((cell_far (p := ⟨gb589, _, none⟩) NB593_589.out _).trans (((cell_far (p := ⟨gb589, _, none⟩) NB593_589.out _).trans (((cell_far (p := ⟨gb589, _, none⟩) NB593_589.out _).trans (((cell_far (p := ⟨gb589, _, none⟩) NB593_589.out _).trans (hHeld.2.1)))))))), ((cell_far (p := ⟨gb589, _, none⟩) NB593_589.out _).trans (((cell_far (p := ⟨gb589, _, none⟩) NB593_589.out _).trans (((cell_far (p := ⟨gb589, _, none⟩) NB593_589.out _).trans (((cell_far (p := ⟨gb589, _, none⟩) NB593_589.out _).trans (hHeld.2.2.1)))))))), ((cell_far (p := ⟨gb589, _, none⟩) NB593_589.out _).trans (((cell_far (p := ⟨gb589, _, none⟩) NB593_589.out _).trans (((cell_far (p := ⟨gb589, _, none⟩) NB593_589.out _).trans (((cell_far (p := ⟨gb589, _, none⟩) NB593_589.out _).trans (hHeld.2.2.2))))))))⟩ (fun hHeld => ?_)
                    clear hK K
                    refine pure_ (i := 6) (N := some 3) (v := ?_) (a' := ?_) #[true, true, true, true, true, true, true] rfl rfl (by kernel_rfl) (fun _ _ _ h => h) (Or.inl ⟨by rfl, ?_⟩) ?_ ?_
                    rotate_left
                    · intro w'
                      go_simp
                      with_reducible rfl
                    rotate_left
                    · simp only [Act.put, List.setIfInBounds_toArray, List.set_cons_zero, List.set_cons_succ, i64_w, i32_w]
                      rfl
                    refine done_ (by kernel_rfl) ?_
                    try go_wp2
                    refine bodyPost_ret (results_ct rfl _ _ gb589 25 #[.int .i64 (t590.length : Int), .int .i64 x594001_3, .int .i64 x594002_2, .int .i64 x594003_2] (0, 0) _ rfl (zQ BK589.out) Tryz.underlying25 rfl (by kernel_rfl)) rfl ?_
                    exact ⟨zE, zH2 HB.out GE589.out GE593.out⟩

/-! ### spec_ParseField: function 29 -/
def spec_ParseField.f (k : Nat) (a0 : ByteArray) : Option (Int × Int × Int × Int × Int) := (spec_l05Read.f k a0).bind fun bt600 => (if bt600.2.2.2.2 = true then (some (bt600.1, bt600.2.1, bt600.2.2.1, bt600.2.2.2.1, 0)) else (some (0, 0, 0, 0, 6)))
set_option maxHeartbeats 8000000 in
set_option maxRecDepth 100000 in
theorem spec_ParseField.calls (k : Nat) (a0 : ByteArray) (r1 : Int) (r2 : Int) (r3 : Int) (r4 : Int) (r5 : Int) (w : World) (h : spec_ParseField.f k a0 = some (r1, r2, r3, r4, r5)) :
    Calls Tryz.prog 29 #[.string a0] w fun e w' => e = .returned (.tuple #[.agg #[.int .i64 r1, .int .i64 r2, .int .i64 r3, .int .i64 r4], .int .i64 r5]) ∧ Below w.heap.size w w' := by
  have hu25 := Tryz.underlying25
  have HB := Aside0.mk (Below.refl w.heap.size w)
  have H : ((spec_l05Read.f k a0).bind fun bt600 => (if bt600.2.2.2.2 = true then (some (bt600.1, bt600.2.1, bt600.2.2.1, bt600.2.2.2.1, 0)) else (some (0, 0, 0, 0, 6)))) = some (r1, r2, r3, r4, r5) := h
  clear h
  obtain ⟨⟨t600, t601, t602, t603, t604⟩, A2, H⟩ := zb H; (try dsimp only at H)
  by_cases c3 : t604 = true
  · subst c3
    have H1 : (some (t600, t601, t602, t603, 0)) = some (r1, r2, r3, r4, r5) := by rw [if_pos rfl] at H; exact H
    clear H
    have H := H1
    clear H1
    simp only [Option.some.injEq, Prod.mk.injEq] at H
    obtain ⟨rfl, rfl, rfl, rfl, rfl⟩ := H
    go_enter Tryz.func29, Tryz.ntmps29
    go_wp2_with (first | ((with_reducible refine gate_dst (N := 2) rfl ?_); refine zX 2 #[.int .i64 0, .int .i64 0, .int .i64 0, .int .i64 0] 25 ?_; intro gb599 hg w4 hbox hb; refine zA4 (below_step (zH HB.out) hb) (hbox) ((zS hg (below_size (zH HB.out)) : w.heap.size ≤ gb599)) ((zS hg (below_size (zH HB.out)) : w.heap.size ≤ gb599)) ?_; clear HB; intro HB BK599 GW599 GE599; clear hb hbox hg) | ((with_reducible refine gate_callee (f := 65) rfl ?_); refine goesL_ (some 8) rfl rfl Tryz.func65 (by kernel_rfl) rfl #[.string a0] rfl zM ?_; (with_reducible refine (spec_l05Read.calls k a0 t600 t601 t602 t603 true _ A2.out).mono ?_); rintro e w5 ⟨rfl, hb⟩; refine ⟨_, rfl, ?_⟩; refine zA2 (zY BK599.out hb) (below_step (zH1 HB.out GE599.out) hb) ?_; clear BK599 HB; intro BK599 HB; (try clear hb); (try clear hb2); (try clear hk); (try clear hi)) | ((with_reducible refine gate_dst (N := 4) rfl ?_); refine zX 4 #[.int .i64 0, .int .i64 0, .int .i64 0, .int .i64 0] 25 ?_; intro gb605 hg w6 hbox hb; refine zA7 (zY BK599.out hb) (below_step (zH1 HB.out GE599.out) hb) (hbox) ((zS hg (below_size (zH1 HB.out GE599.out)) : w.heap.size ≤ gb605)) ((zS hg (below_size (zH1 HB.out GE599.out)) : w.heap.size ≤ gb605)) ((zl hg (blk_lt (g := gb599) (o := .cells #[.int .i64 0, .int .i64 0, .int .i64 0, .int .i64 0] 25 (0, 0)) (zB BK599.out)) : gb599 ≠ gb605)) ((zg hg (blk_lt (g := gb599) (o := .cells #[.int .i64 0, .int .i64 0, .int .i64 0, .int .i64 0] 25 (0, 0)) (zB BK599.out)) : gb605 ≠ gb599)) ?_; clear BK599 HB; intro BK599 HB BK605 GW605 GE605 NB599_605 NB605_599; clear hb hbox hg; have hnb7 := NB605_599.out; have hnc7 := NB599_605.out; obtain ⟨hcz8_0, hcz8_1, hcz8_2, hcz8_3⟩ := zc4 BK605; obtain ⟨hfz8_0, hfz8_1, hfz8_2, hfz8_3⟩ := zf4 BK605; obtain ⟨hcz9_0, hcz9_1, hcz9_2, hcz9_3⟩ := zc4 BK599; obtain ⟨hfz9_0, hfz9_1, hfz9_2, hfz9_3⟩ := zf4 BK599))
    refine bodyPost_ret (results_ct rfl _ _ gb599 25 #[.int .i64 t600, .int .i64 t601, .int .i64 t602, .int .i64 t603] (0, 0) _ rfl (zQ1 BK599.out NB599_605.out) Tryz.underlying25 rfl (by kernel_rfl)) rfl ?_
    exact ⟨zE, zH2 HB.out GE599.out GE605.out⟩
  · replace c3 := Bool.eq_false_iff.mpr c3
    subst c3
    have H1 : (some (0, 0, 0, 0, 6)) = some (r1, r2, r3, r4, r5) := by rw [if_neg (show ¬ (false = true) by decide)] at H; exact H
    clear H
    have H := H1
    clear H1
    simp only [Option.some.injEq, Prod.mk.injEq] at H
    obtain ⟨rfl, rfl, rfl, rfl, rfl⟩ := H
    go_enter Tryz.func29, Tryz.ntmps29
    go_wp2_with (first | ((with_reducible refine gate_dst (N := 2) rfl ?_); refine zX 2 #[.int .i64 0, .int .i64 0, .int .i64 0, .int .i64 0] 25 ?_; intro gb599 hg w10 hbox hb; refine zA4 (below_step (zH HB.out) hb) (hbox) ((zS hg (below_size (zH HB.out)) : w.heap.size ≤ gb599)) ((zS hg (below_size (zH HB.out)) : w.heap.size ≤ gb599)) ?_; clear HB; intro HB BK599 GW599 GE599; clear hb hbox hg) | ((with_reducible refine gate_callee (f := 65) rfl ?_); refine goesL_ (some 8) rfl rfl Tryz.func65 (by kernel_rfl) rfl #[.string a0] rfl zM ?_; (with_reducible refine (spec_l05Read.calls k a0 t600 t601 t602 t603 false _ A2.out).mono ?_); rintro e w11 ⟨rfl, hb⟩; refine ⟨_, rfl, ?_⟩; refine zA2 (zY BK599.out hb) (below_step (zH1 HB.out GE599.out) hb) ?_; clear BK599 HB; intro BK599 HB; (try clear hb); (try clear hb2); (try clear hk); (try clear hi)) | ((with_reducible refine gate_dst (N := 4) rfl ?_); refine zX 4 #[.int .i64 0, .int .i64 0, .int .i64 0, .int .i64 0] 25 ?_; intro gb605 hg w12 hbox hb; refine zA7 (zY BK599.out hb) (below_step (zH1 HB.out GE599.out) hb) (hbox) ((zS hg (below_size (zH1 HB.out GE599.out)) : w.heap.size ≤ gb605)) ((zS hg (below_size (zH1 HB.out GE599.out)) : w.heap.size ≤ gb605)) ((zl hg (blk_lt (g := gb599) (o := .cells #[.int .i64 0, .int .i64 0, .int .i64 0, .int .i64 0] 25 (0, 0)) (zB BK599.out)) : gb599 ≠ gb605)) ((zg hg (blk_lt (g := gb599) (o := .cells #[.int .i64 0, .int .i64 0, .int .i64 0, .int .i64 0] 25 (0, 0)) (zB BK599.out)) : gb605 ≠ gb599)) ?_; clear BK599 HB; intro BK599 HB BK605 GW605 GE605 NB599_605 NB605_599; clear hb hbox hg; have hnb13 := NB605_599.out; have hnc13 := NB599_605.out; obtain ⟨hcz14_0, hcz14_1, hcz14_2, hcz14_3⟩ := zc4 BK605; obtain ⟨hfz14_0, hfz14_1, hfz14_2, hfz14_3⟩ := zf4 BK605; obtain ⟨hcz15_0, hcz15_1, hcz15_2, hcz15_3⟩ := zc4 BK599; obtain ⟨hfz15_0, hfz15_1, hfz15_2, hfz15_3⟩ := zf4 BK599))
    refine bodyPost_ret (results_ct rfl _ _ gb599 25 #[.int .i64 0, .int .i64 0, .int .i64 0, .int .i64 0] (0, 0) _ rfl (zQ1 BK599.out NB599_605.out) Tryz.underlying25 rfl (by kernel_rfl)) rfl ?_
    exact ⟨zE, zH2 HB.out GE599.out GE605.out⟩

/-! ### spec_FieldText: function 30 -/
def spec_FieldText.f (k : Nat) (a0_0 : Int) (a0_1 : Int) (a0_2 : Int) (a0_3 : Int) : Option (ByteArray × Int) := (spec_l05Is.f a0_0 a0_1 a0_2 a0_3).bind fun t607 => (if t607 = true then ((spec_l05Text.f k a0_0 a0_1 a0_2 a0_3).bind fun t608 => (some (t608, 0))) else (some ((⟨#[]⟩ : ByteArray), 1)))
set_option maxHeartbeats 8000000 in
set_option maxRecDepth 100000 in
theorem spec_FieldText.calls (k : Nat) (a0_0 : Int) (a0_1 : Int) (a0_2 : Int) (a0_3 : Int) (r1 : ByteArray) (r2 : Int) (w : World) (h : spec_FieldText.f k a0_0 a0_1 a0_2 a0_3 = some (r1, r2)) :
    Calls Tryz.prog 30 #[.agg #[.int .i64 a0_0, .int .i64 a0_1, .int .i64 a0_2, .int .i64 a0_3]] w fun e w' => e = .returned (.tuple #[.string r1, .int .i64 r2]) ∧ Below w.heap.size w w' := by
  have hu25 := Tryz.underlying25
  have HB := Aside0.mk (Below.refl w.heap.size w)
  have H : ((spec_l05Is.f a0_0 a0_1 a0_2 a0_3).bind fun t607 => (if t607 = true then ((spec_l05Text.f k a0_0 a0_1 a0_2 a0_3).bind fun t608 => (some (t608, 0))) else (some ((⟨#[]⟩ : ByteArray), 1)))) = some (r1, r2) := h
  clear h
  obtain ⟨t607, A2, H⟩ := zb H
  by_cases c3 : t607 = true
  · subst c3
    have H1 : ((spec_l05Text.f k a0_0 a0_1 a0_2 a0_3).bind fun t608 => (some (t608, 0))) = some (r1, r2) := by rw [if_pos rfl] at H; exact H
    clear H
    have H := H1
    clear H1
    obtain ⟨t608, A4, H⟩ := zb H
    simp only [Option.some.injEq, Prod.mk.injEq] at H
    obtain ⟨rfl, rfl⟩ := H
    go_enter Tryz.func30, Tryz.ntmps30
    go_wp2_with (first | ((with_reducible refine gate_dst (N := 1) rfl ?_); refine zX 1 #[.int .i64 a0_0, .int .i64 a0_1, .int .i64 a0_2, .int .i64 a0_3] 25 ?_; intro gb606 hg w5 hbox hb; refine zA4 (below_step (zH HB.out) hb) (hbox) ((zS hg (below_size (zH HB.out)) : w.heap.size ≤ gb606)) ((zS hg (below_size (zH HB.out)) : w.heap.size ≤ gb606)) ?_; clear HB; intro HB BK606 GW606 GE606; clear hb hbox hg; obtain ⟨hcz6_0, hcz6_1, hcz6_2, hcz6_3⟩ := zc4 BK606; obtain ⟨hfz6_0, hfz6_1, hfz6_2, hfz6_3⟩ := zf4 BK606) | ((with_reducible refine gate_callee (f := 47) rfl ?_); refine goesL_ (some 5) rfl rfl Tryz.func47 (by kernel_rfl) rfl #[.agg #[.int .i64 a0_0, .int .i64 a0_1, .int .i64 a0_2, .int .i64 a0_3]] rfl zM ?_; (with_reducible refine (spec_l05Is.calls a0_0 a0_1 a0_2 a0_3 true _ A2.out).mono ?_); rintro e w7 ⟨rfl, hb⟩; refine ⟨_, rfl, ?_⟩; refine zA2 (zY BK606.out hb) (below_step (zH1 HB.out GE606.out) hb) ?_; clear BK606 HB; intro BK606 HB; (try clear hb); (try clear hb2); (try clear hk); (try clear hi); obtain ⟨hcz8_0, hcz8_1, hcz8_2, hcz8_3⟩ := zc4 BK606; obtain ⟨hfz8_0, hfz8_1, hfz8_2, hfz8_3⟩ := zf4 BK606) | ((with_reducible refine gate_callee (f := 63) rfl ?_); refine goesL_ (some 8) rfl rfl Tryz.func63 (by kernel_rfl) rfl #[.agg #[.int .i64 a0_0, .int .i64 a0_1, .int .i64 a0_2, .int .i64 a0_3]] rfl zM ?_; (with_reducible refine (spec_l05Text.calls k a0_0 a0_1 a0_2 a0_3 t608 _ A4.out).mono ?_); rintro e w9 ⟨rfl, hb⟩; refine ⟨_, rfl, ?_⟩; refine zA2 (zY BK606.out hb) (below_step (zH1 HB.out GE606.out) hb) ?_; clear BK606 HB; intro BK606 HB; (try clear hb); (try clear hb2); (try clear hk); (try clear hi)))
    go_ret2
    exact ⟨zE, zH1 HB.out GE606.out⟩
  · replace c3 := Bool.eq_false_iff.mpr c3
    subst c3
    have H1 : (some ((⟨#[]⟩ : ByteArray), 1)) = some (r1, r2) := by rw [if_neg (show ¬ (false = true) by decide)] at H; exact H
    clear H
    have H := H1
    clear H1
    simp only [Option.some.injEq, Prod.mk.injEq] at H
    obtain ⟨rfl, rfl⟩ := H
    go_enter Tryz.func30, Tryz.ntmps30
    go_wp2_with (first | ((with_reducible refine gate_dst (N := 1) rfl ?_); refine zX 1 #[.int .i64 a0_0, .int .i64 a0_1, .int .i64 a0_2, .int .i64 a0_3] 25 ?_; intro gb606 hg w10 hbox hb; refine zA4 (below_step (zH HB.out) hb) (hbox) ((zS hg (below_size (zH HB.out)) : w.heap.size ≤ gb606)) ((zS hg (below_size (zH HB.out)) : w.heap.size ≤ gb606)) ?_; clear HB; intro HB BK606 GW606 GE606; clear hb hbox hg; obtain ⟨hcz11_0, hcz11_1, hcz11_2, hcz11_3⟩ := zc4 BK606; obtain ⟨hfz11_0, hfz11_1, hfz11_2, hfz11_3⟩ := zf4 BK606) | ((with_reducible refine gate_callee (f := 47) rfl ?_); refine goesL_ (some 5) rfl rfl Tryz.func47 (by kernel_rfl) rfl #[.agg #[.int .i64 a0_0, .int .i64 a0_1, .int .i64 a0_2, .int .i64 a0_3]] rfl zM ?_; (with_reducible refine (spec_l05Is.calls a0_0 a0_1 a0_2 a0_3 false _ A2.out).mono ?_); rintro e w12 ⟨rfl, hb⟩; refine ⟨_, rfl, ?_⟩; refine zA2 (zY BK606.out hb) (below_step (zH1 HB.out GE606.out) hb) ?_; clear BK606 HB; intro BK606 HB; (try clear hb); (try clear hb2); (try clear hk); (try clear hi)))
    go_ret2
    exact ⟨zE, zH1 HB.out GE606.out⟩

end Go.Proofs.YtlmohkbimnhecaaGreatDoor.Q
