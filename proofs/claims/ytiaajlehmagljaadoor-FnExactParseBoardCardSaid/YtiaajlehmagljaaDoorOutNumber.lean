/-
  strings.Cut at a separator of one letter; impl.number: what strconv's two errors and its table hold is told of the world (Door), kept by whatever grows. Told as the printed functions are.
-/
import Derived.Test.YtiaajlehmagljaaDoorLays
import Derived.Test.YtiaajlehmagljaaDoorQ0
import Derived.Test.YtiaajlehmagljaaDoorSplitOne
import Derived.Test.YtiaajlehmagljaaDoorQ1
import Derived.Lib.AppendIntMem
import Derived.Lib.AtoiErrMem
import Derived.Shelf.Strings.Cut
import Derived.Shelf.Strconv.ParseIntPublic10
import Derived.Shelf.Strconv.ErrVarParseInt
import Derived.Shelf.Strconv.Itoa4
namespace Go.Proofs
open Go.Shelf Go.RowKit Go.Lib
section
variable {P : Program} {ρ : Ren}
set_option maxHeartbeats 2000000 in
set_option maxRecDepth 100000 in
theorem Any.lite_cut_one (L : Lays.n220 P ρ) (s : ByteArray) (c : UInt8) (w : World) (hs : s.size < 4294967281) :
    Calls P (ρ.f 220) #[.string s, .string ⟨#[c]⟩] w fun e w' => e = .returned (.tuple #[.string ⟨(Lib.cut s.data.toList [c]).1.toArray⟩, .string ⟨(Lib.cut s.data.toList [c]).2.1.toArray⟩, .bool (Lib.cut s.data.toList [c]).2.2]) ∧ ∃ n, w' = w.drewN n := by
  have hI : ∀ w, Calls P (ρ.f 219) #[.string s, .string ⟨#[c]⟩] w fun e w' => e = .returned (.int .i64 (Lib.index s.data.toList [c])) ∧ w' = w := fun w => by
    refine (Any.stringslite_Index_one { L with } s c w).mono fun e w' ⟨he, hw⟩ => ⟨?_, hw⟩
    rw [he, Lib.index_one]
  rcases Lib.indexB_cases s ⟨#[c]⟩ with hix | ⟨i, hix, hroom⟩
  · obtain ⟨e1, e2, e3⟩ := Lib.cutB_miss s ⟨#[c]⟩ hix
    rw [show ([c] : List UInt8) = (⟨#[c]⟩ : ByteArray).data.toList from rfl, e1, e2, e3]
    have t3 := L.t3; have t4 := L.t4; have t9 := L.t9
    have a3 : ∀ w, (isAgg (ρ.t 3)).run P w = .ok false w := run_isAgg_plain L.t3 rfl; have a4 : ∀ w, (isAgg (ρ.t 4)).run P w = .ok false w := run_isAgg_plain L.t4 rfl; have a9 : ∀ w, (isAgg (ρ.t 9)).run P w = .ok false w := run_isAgg_plain L.t9 rfl
    have e219 : ∀ args w, (callFunc (ρ.f 219) args).run P w = .ok (.enter (ρ.f 219) args) w := enters_of L.f219 (by kernel_rfl) rfl
    have mixed := L.mixed; have z3 := L.z3; have v3 := L.v3; have z4 := L.z4; have v4 := L.v4; have z9 := L.z9; have v9 := L.v9
    go_enter L.f220, Body.n220_ntmps ρ
    go_wp2_with (go_at_fn (ρ.f 219); refine (hI _).mono ?_; rintro e w' ⟨rfl, rfl⟩; rw [show Lib.index s.data.toList [c] = _ from hix])
    go_ret3
    exact ⟨rfl, 0, rfl⟩
  · obtain ⟨e1, e2, e3⟩ := Lib.cutB_hit s ⟨#[c]⟩ i hix
    have hz : (⟨#[c]⟩ : ByteArray).size = 1 := rfl
    rw [show ([c] : List UInt8) = (⟨#[c]⟩ : ByteArray).data.toList from rfl, e1, e2, e3]
    have c1 : (0 : Int) ≤ ↑i := by omega
    have c2 : (↑i : Int) ≤ ↑s.size := by omega
    have c3 : (0 : Int) ≤ ↑i + ↑(⟨#[c]⟩ : ByteArray).size := by omega
    have c4 : (↑i + ↑(⟨#[c]⟩ : ByteArray).size : Int) ≤ ↑s.size := by omega
    have c5 : (↑i + ↑(⟨#[c]⟩ : ByteArray).size : Int) ≤ 9223372036854775807 := by omega
    have t3 := L.t3; have t4 := L.t4; have t9 := L.t9
    have a3 : ∀ w, (isAgg (ρ.t 3)).run P w = .ok false w := run_isAgg_plain L.t3 rfl; have a4 : ∀ w, (isAgg (ρ.t 4)).run P w = .ok false w := run_isAgg_plain L.t4 rfl; have a9 : ∀ w, (isAgg (ρ.t 9)).run P w = .ok false w := run_isAgg_plain L.t9 rfl
    have e219 : ∀ args w, (callFunc (ρ.f 219) args).run P w = .ok (.enter (ρ.f 219) args) w := enters_of L.f219 (by kernel_rfl) rfl
    have mixed := L.mixed; have z3 := L.z3; have v3 := L.v3; have z4 := L.z4; have v4 := L.v4; have z9 := L.z9; have v9 := L.v9
    have hI' : ∀ w, Calls P (ρ.f 219) #[.string s, .string ⟨#[c]⟩] w fun e w' => e = .returned (.int .i64 i) ∧ w' = w := fun w => by
      refine (hI w).mono fun e w' ⟨he, hw⟩ => ⟨?_, hw⟩
      rw [he, show Lib.index s.data.toList [c] = _ from hix]
    clear hI
    clear hz
    generalize (⟨#[c]⟩ : ByteArray) = sep at *
    go_enter L.f220, Body.n220_ntmps ρ
    go_wp2_with (go_at_fn (ρ.f 219); refine (hI' _).mono ?_; rintro e w' ⟨rfl, rfl⟩)
    go_region_o
    go_wp2
    go_ret3
    exact ⟨rfl, 1, rfl⟩
theorem Any.cut_one (L : Lays.n145 P ρ) (s : ByteArray) (c : UInt8) (w : World) (hs : s.size < 4294967281) :
    Calls P (ρ.f 145) #[.string s, .string ⟨#[c]⟩] w fun e w' => e = .returned (.tuple #[.string ⟨(Lib.cut s.data.toList [c]).1.toArray⟩, .string ⟨(Lib.cut s.data.toList [c]).2.1.toArray⟩, .bool (Lib.cut s.data.toList [c]).2.2]) ∧ ∃ n, w' = w.drewN n := by
  have t4 := L.t4; have t9 := L.t9; have t59 := L.t59
  have a4 : ∀ w, (isAgg (ρ.t 4)).run P w = .ok false w := run_isAgg_plain L.t4 rfl; have a9 : ∀ w, (isAgg (ρ.t 9)).run P w = .ok false w := run_isAgg_plain L.t9 rfl; have a59 : ∀ w, (isAgg (ρ.t 59)).run P w = .ok false w := run_isAgg_plain L.t59 rfl
  have e220 : ∀ args w, (callFunc (ρ.f 220) args).run P w = .ok (.enter (ρ.f 220) args) w := enters_of L.f220 (by kernel_rfl) rfl
  have mixed := L.mixed; have z4 := L.z4; have v4 := L.v4; have z9 := L.z9; have v9 := L.v9; have z59 := L.z59; have v59 := L.v59
  have hI := fun w => Any.lite_cut_one { L with } s c w hs
  generalize (⟨#[c]⟩ : ByteArray) = sep at *
  go_enter L.f145, Body.n145_ntmps ρ
  go_wp2_with (go_at_fn (ρ.f 220); refine (hI _).mono ?_; rintro e w' ⟨rfl, n, rfl⟩)
  go_ret3
  exact ⟨rfl, n, rfl⟩
end
namespace YtiaajlehmagljaaDoor.Q
open Go.RowKit Go.Proofs.YtiaajlehmagljaaDoorW.PrintWords Go.Proofs.YtiaajlehmagljaaDoorW.PrintLast Go.Proofs.YtiaajlehmagljaaDoorW.PrintMore

/-- What strconv's two errors and its table of powers hold. -/
structure Door (w : World) : Prop where
  syn : ∃ tp p, w.var? Tryd.prog "strconv.ErrSyntax" = some #[.iface tp p]
  ran : ∃ tp p, w.var? Tryd.prog "strconv.ErrRange" = some #[.iface tp p]
  tab : Lib.TabIs Tryd.prog w "internal/strconv.uint64pow10" .u64 Lib.pow10Tab
theorem var_below {n : String} {x : Array Value} {w w' : World} (h : w.var? Tryd.prog n = some x) (hb : Below w.heap.size w w') : w'.var? Tryd.prog n = some x := by
  unfold World.var? at h ⊢
  generalize Tryd.prog.globalNamed n = og at h ⊢
  cases og with
  | none => cases h
  | some g =>
    simp only [Option.bind_some] at h ⊢
    have hlt : g < w.heap.size := by
      rcases Nat.lt_or_ge g w.heap.size with h' | h'
      · exact h'
      · rw [Array.getElem?_eq_none h'] at h; cases h
    rw [hb.block g hlt]
    exact h
theorem Door.below {w w' : World} (h : Door w) (hb : Below w.heap.size w w') : Door w' := by
  obtain ⟨⟨a, b, h1⟩, ⟨c, d, h2⟩, h3⟩ := h
  exact ⟨⟨a, b, var_below h1 hb⟩, ⟨c, d, var_below h2 hb⟩, var_below h3 hb⟩

/-- The number of a text: its numeral, from 0 to most. -/
def numQ (s : ByteArray) (most : Int) : Int × Bool :=
  match Lib.parseIntB 64 s.data.toList with
  | .ok v => if (⟨(Lib.itoa v).toArray⟩ : ByteArray).toList = s.toList ∧ 0 ≤ v ∧ v ≤ most then (v, true) else (0, false)
  | _ => (0, false)
def impl_number.f (s : ByteArray) (most : Int) : Option (Int × Bool) := if s.size ≤ 281474976710656 then some (numQ s most) else none
set_option maxRecDepth 100000 in
theorem decimal_any (n : Int) (h0 : -9223372036854775808 ≤ n) (h1 : n ≤ 9223372036854775807) (w : World) (hd : Door w) :
    Calls Tryd.prog 21 #[.int .i64 n] w fun e w' => e = .returned (.string ⟨(Lib.itoa n).toArray⟩) ∧ Below w.heap.size w w' := by
  go_enter Tryd.func21, Tryd.ntmps21
  go_wp2_with (go_at_call 38; refine (Tryd.strconv_FormatInt_10 n h0 h1 _ hd.tab).mono ?_; rintro e w' ⟨rfl, k, os, rfl⟩)
  go_ret
  exact ⟨rfl, Lib.below_grow _ _ (Nat.le_refl _) _ _⟩
set_option maxHeartbeats 8000000 in
set_option maxRecDepth 100000 in
theorem impl_number.calls (s : ByteArray) (most : Int) (r1 : Int) (r2 : Bool) (w : World) (h : impl_number.f s most = some (r1, r2)) (hd : Door w) :
    Calls Tryd.prog 26 #[.string s, .int .i64 most] w fun e w' => e = .returned (.tuple #[.int .i64 r1, .bool r2]) ∧ Below w.heap.size w w' := by
  unfold impl_number.f at h
  split at h
  rotate_left
  · cases h
  rename_i hs
  have h := Option.some.inj h
  unfold numQ at h
  cases hp : Lib.parseIntB 64 s.data.toList
  · rename_i v
    rw [hp] at h
    simp only at h
    have hv := Lib.parseIntB_bounds hp
    have hv1 : -9223372036854775808 ≤ v := by have := hv.1; omega
    have hv2 : v ≤ 9223372036854775807 := by have := hv.2; omega
    clear hv
    have hP : ∀ w, Calls Tryd.prog 45 #[.string s, .int .i64 10, .int .i64 64] w fun e w' => e = .returned (.tuple #[.int .i64 v, .nilIface]) ∧ Below w.heap.size w w' := fun w => by
      refine (Tryd.strconv_ParseInt_10_at64_ok s (by omega) v hp w).mono ?_
      rintro e w' ⟨rfl, rfl | ⟨t, rfl⟩⟩
      · exact ⟨rfl, Below.refl _ _⟩
      · exact ⟨rfl, Lib.bytesWorld_below _ _ _⟩
    have hD := decimal_any v hv1 hv2
    generalize (⟨(Lib.itoa v).toArray⟩ : ByteArray) = num at h hD
    clear hp
    have hw : ∀ w b, impl_within.f v 0 most = some b → Calls Tryd.prog 34 #[.int .i64 v, .int .i64 0, .int .i64 most] w fun e w' => e = .returned (.bool b) ∧ Below w.heap.size w w' := fun w b hb =>
      (impl_within.calls v 0 most b w hb).mono fun e w' ⟨he, hw⟩ => ⟨he, hw.below⟩
    have hin : impl_within.f v 0 most = some (decide (0 ≤ v ∧ v ≤ most)) := by
      unfold impl_within.f
      split
      · rename_i h0
        simp [h0]
      · rename_i h0
        simp [h0]
    by_cases c : num.toList = s.toList
    · have cb : (num.toList == s.toList) = true := beq_iff_eq.mpr c
      have cn : (num.toList != s.toList) = false := bne_eq_false_iff_eq.mpr c
      by_cases c1 : 0 ≤ v ∧ v ≤ most
      · rw [decide_eq_true c1] at hin
        rw [if_pos ⟨c, c1⟩] at h
        obtain ⟨rfl, rfl⟩ := Prod.mk.inj h
        go_enter Tryd.func26, Tryd.ntmps26
        go_wp2_with (first | (go_at_call 45; refine (hP _).mono ?_; rintro e w1 ⟨rfl, hb1⟩) | (go_at_call 21; refine (hD _ (hd.below (by assumption))).mono ?_; rintro e w2 ⟨rfl, hb2⟩) | (go_at_call 34; refine (hw _ _ hin).mono ?_; rintro e w3 ⟨rfl, hb3⟩))
        go_ret2
        exact ⟨rfl, below_then (below_then hb1 hb1.size hb2) (Nat.le_trans hb1.size hb2.size) hb3⟩
      · rw [decide_eq_false c1] at hin
        rw [if_neg (fun q => c1 q.2)] at h
        obtain ⟨rfl, rfl⟩ := Prod.mk.inj h
        go_enter Tryd.func26, Tryd.ntmps26
        go_wp2_with (first | (go_at_call 45; refine (hP _).mono ?_; rintro e w1 ⟨rfl, hb1⟩) | (go_at_call 21; refine (hD _ (hd.below (by assumption))).mono ?_; rintro e w2 ⟨rfl, hb2⟩) | (go_at_call 34; refine (hw _ _ hin).mono ?_; rintro e w3 ⟨rfl, hb3⟩))
        go_ret2
        exact ⟨rfl, below_then (below_then hb1 hb1.size hb2) (Nat.le_trans hb1.size hb2.size) hb3⟩
    · have cb : (num.toList == s.toList) = false := beq_eq_false_iff_ne.mpr c
      have cn : (num.toList != s.toList) = true := bne_iff_ne.mpr c
      rw [if_neg (fun q => c q.1)] at h
      obtain ⟨rfl, rfl⟩ := Prod.mk.inj h
      go_enter Tryd.func26, Tryd.ntmps26
      go_wp2_with (first | (go_at_call 45; refine (hP _).mono ?_; rintro e w1 ⟨rfl, hb1⟩) | (go_at_call 21; refine (hD _ (hd.below (by assumption))).mono ?_; rintro e w2 ⟨rfl, hb2⟩))
      go_ret2
      exact ⟨rfl, below_then hb1 hb1.size hb2⟩
  · rw [hp] at h
    obtain ⟨rfl, rfl⟩ := Prod.mk.inj h
    obtain ⟨tp, p, hv⟩ := hd.syn
    have hP : Calls Tryd.prog 45 #[.string s, .int .i64 10, .int .i64 64] w fun e w' => ∃ N t, e = .returned (.tuple #[.int .i64 0, .iface t (.pointer (some ⟨N, 0, none⟩))]) ∧ Below w.heap.size w w' := by
      refine (Any.strconv_ParseInt_10_at64_syntax_var Tryd.laysC174 s hs hp tp p w hv).mono ?_
      rintro e w' ⟨N, rfl, -, -, hb⟩
      exact ⟨N, _, rfl, hb⟩
    go_enter Tryd.func26, Tryd.ntmps26
    go_wp2_with (first | (go_at_call 45; refine hP.mono ?_; rintro e w1 ⟨N, t, rfl, hb1⟩))
    go_ret2
    exact ⟨rfl, hb1⟩
  · rw [hp] at h
    obtain ⟨rfl, rfl⟩ := Prod.mk.inj h
    obtain ⟨tp, p, hv⟩ := hd.ran
    have hP : Calls Tryd.prog 45 #[.string s, .int .i64 10, .int .i64 64] w fun e w' => ∃ N t z, e = .returned (.tuple #[.int .i64 z, .iface t (.pointer (some ⟨N, 0, none⟩))]) ∧ Below w.heap.size w w' := by
      refine (Tryd.strconv_ParseInt_10_at64_range_var s hs hp tp p w hv).mono ?_
      rintro e w' ⟨N, rfl, -, -, hb⟩
      exact ⟨N, _, _, rfl, hb⟩
    go_enter Tryd.func26, Tryd.ntmps26
    go_wp2_with (first | (go_at_call 45; refine hP.mono ?_; rintro e w1 ⟨N, t, z, rfl, hb1⟩))
    go_ret2
    exact ⟨rfl, hb1⟩
/-- What stands ahead of and behind the first letter c. -/
def strings_Cut.f (s sep : ByteArray) : Option (ByteArray × ByteArray × Bool) :=
  if s.size < 4294967281 ∧ sep = ⟨#[58]⟩ then some (⟨(Lib.cut s.data.toList [58]).1.toArray⟩, ⟨(Lib.cut s.data.toList [58]).2.1.toArray⟩, (Lib.cut s.data.toList [58]).2.2) else none
theorem strings_Cut.calls (s sep : ByteArray) (r1 r2 : ByteArray) (r3 : Bool) (w : World) (h : strings_Cut.f s sep = some (r1, r2, r3)) :
    Calls Tryd.prog 25 #[.string s, .string sep] w fun e w' => e = .returned (.tuple #[.string r1, .string r2, .bool r3]) ∧ Below w.heap.size w w' := by
  unfold strings_Cut.f at h
  split at h
  rotate_left
  · cases h
  rename_i hs
  obtain ⟨hs, rfl⟩ := hs
  have h1 := Option.some.inj h
  clear h
  obtain ⟨rfl, h2⟩ := Prod.mk.inj h1
  clear h1
  obtain ⟨rfl, rfl⟩ := Prod.mk.inj h2
  refine (Any.cut_one Tryd.lays145 s 58 w hs).mono ?_
  rintro e w' ⟨rfl, n, rfl⟩
  exact ⟨rfl, pw_below_drewN (Below.refl _ _) _⟩
def strings_Split.f (s sep : ByteArray) : Option (List ByteArray) :=
  if s.size < 4294967281 then (if sep = ⟨#[44]⟩ then some (partsS 44 s) else if sep = ⟨#[46]⟩ then some (partsS 46 s) else none) else none
theorem split_own (s : ByteArray) (c : UInt8) (w : World) (hs : s.size < 4294967281) :
    Calls Tryd.prog 27 #[.string s, .string ⟨#[c]⟩] w fun e w' => ∃ v : Value, e = .returned v ∧ Kd.R Kd.string 9 w' w.heap.size (fun _ => True) v (partsS c s) ∧ Below w.heap.size w w' := by
  have hl := parts_len c s
  have hle : Lib.countB s ⟨#[c]⟩ ≤ s.size + 1 := by rw [Lib.size_eq]; exact Lib.count_le _ _
  refine (Any.split_one Tryd.lays146 (by kernel_rfl) s c w hs).mono ?_
  rintro e w' ⟨rfl, rfl⟩
  rw [← hl]
  refine ⟨_, rfl, Kd.R_of_own ?_ (fun _ _ => trivial), (Below.refl _ _).alloc (Nat.le_refl _) _⟩
  have h2 := World.ownsRow_lit (base := w.heap.size) (e := 9) (size := 1) w ((partsS c s).map Value.string).toArray (partsS c s).length (Nat.le_refl _) (by show _ ≤ 9223372036854775807; omega) (by simp)
  have h3 : (w.alloc (Obj.cells (List.map Value.string (partsS c s)).toArray 9)).ownsRow w.heap.size 9 1 (Value.slice (some { block := w.heap.size, off := 0 }) (partsS c s).length (partsS c s).length) (partsS c s).length (List.map Value.string (partsS c s)) := by simpa using h2
  exact h3
theorem strings_Split.calls (s sep : ByteArray) (r : List ByteArray) (w : World) (h : strings_Split.f s sep = some r) :
    Calls Tryd.prog 27 #[.string s, .string sep] w fun e w' => ∃ v : Value, e = .returned v ∧ Kd.R Kd.string 9 w' w.heap.size (fun _ => True) v r ∧ Below w.heap.size w w' := by
  unfold strings_Split.f at h
  split at h
  rotate_left
  · cases h
  rename_i hs
  split at h
  · rename_i hc
    subst hc
    obtain rfl := Option.some.inj h
    exact split_own s 44 w hs
  split at h
  · rename_i hc
    subst hc
    obtain rfl := Option.some.inj h
    exact split_own s 46 w hs
  · cases h
end YtiaajlehmagljaaDoor.Q
end Go.Proofs
