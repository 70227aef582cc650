/-
  impl.IsTrack, told as the printed functions are. The rows within memory's reach.
-/
import Derived.Test.YtjblefcdihmdbaaDoorQ1
import Derived.Test.YtjblefcdihmdbaaDoorOutStr
import Derived.Test.YtjblefcdihmdbaaDoorHofStr
namespace Go.Proofs.YtjblefcdihmdbaaDoor.Q
open Go.RowKit Go.Proofs.YtjblefcdihmdbaaDoorW.PrintWords Go.Proofs.YtjblefcdihmdbaaDoorW.PrintLast Go.Proofs.YtjblefcdihmdbaaDoorW.PrintMore

/-- Whether a row is wrong. -/
def wrongP (l : List ByteArray) (x : ByteArray) : Option Bool :=
  if 0 < l.length then if (x.size : Int) = ((rdOf ByteArray.empty l 0).size : Int) then (strings_Trim.f x ⟨#[46, 35, 83, 71]⟩).bind fun t => some (!t.toList.isEmpty) else some true else none
def impl_IsTrack.f (l : List ByteArray) : Option Bool :=
  if 1 ≤ l.length ∧ l.length ≤ 16 ∧ 1 ≤ (rdOf ByteArray.empty l 0).size ∧ (rdOf ByteArray.empty l 0).size ≤ 16 then
    (strings_Join.f l ⟨#[]⟩).bind fun all => (anyF (wrongP l) l).bind fun wrong => if wrong = true then some false else (strings_Count.f all ⟨#[83]⟩).bind fun n => if n = 1 then strings_Contains.f all ⟨#[71]⟩ else some false
  else some false

set_option maxHeartbeats 4000000 in
theorem wrong_calls (g : Nat) (A : Option Addr) (c : Nat) (l : List ByteArray) (x : ByteArray) (b : Bool) (W : World) (hg : W.cell? ⟨g, 0, none⟩ = some (.slice A l.length c)) (hr : Kd.C Kd.string W A l.length l) (h : wrongP l x = some b) :
    Calls Tryd.prog 46 (#[.string x] ++ #[.pointer (some ⟨g, 0, none⟩)]) W fun e w' => e = .returned (.bool b) ∧ Below W.heap.size W w' := by
  rw [show (#[Value.string x] ++ #[Value.pointer (some ⟨g, 0, none⟩)] : Array Value) = #[.string x, .pointer (some ⟨g, 0, none⟩)] from rfl]
  unfold wrongP at h
  split at h
  rotate_left
  · cases h
  rename_i h0
  have h0z : (0 : Int) < (l.length : Int) := by omega
  obtain ⟨ad, e, hx⟩ := Kd.at_string hr 0 (by omega) (by omega)
  cases e
  have hsp := (spot_of hx).1
  obtain ⟨bk, o, q⟩ := ad
  have hq : q = none := hsp
  subst hq
  have hx0 : W.cell? ⟨bk, o, none⟩ = some (.string (rdOf ByteArray.empty l 0)) := hx
  clear hsp hx
  split at h
  · rename_i hs
    obtain ⟨t, ht, h⟩ := Option.bind_eq_some_iff.1 h
    obtain rfl := Option.some.inj h
    have HT := Aside0.mk ht
    clear ht hr
    go_enter Tryd.func46, Tryd.ntmps46
    go_wp2_with (go_at_call 47; refine (strings_Trim.calls _ _ t _ HT.out).mono ?_; rintro e w' ⟨rfl, hb'⟩)
    go_ret
    exact ⟨rfl, hb'⟩
  · rename_i hs
    obtain rfl := Option.some.inj h
    clear hr
    go_enter Tryd.func46, Tryd.ntmps46
    go_wp2_with fail
    go_ret
    exact ⟨rfl, Below.refl _ _⟩
/-- What lies behind each step of IsTrack. -/
structure TrackS (A : Option Addr) (c : Nat) (l : List ByteArray) (w0 w : World) : Prop where
  row : w.cell? ⟨w0.heap.size, 0, none⟩ = some (.slice A l.length c)
  reads : Kd.C Kd.string w A l.length l
  below : Below w0.heap.size w0 w
section
variable {A : Option Addr} {c : Nat} {l : List ByteArray} {w0 w w' : World}
theorem TrackS.step (h : Aside0 (TrackS A c l w0 w)) (hb : Below w.heap.size w w') : Aside0 (TrackS A c l w0 w') := ⟨pw_cell_below hb h.out.row, Kd.C_below h.out.reads hb, below_then h.out.below h.out.below.size hb⟩
theorem TrackS.at0 {bk o : Nat} (h : Aside0 (TrackS (some ⟨bk, o, none⟩) c l w0 w)) (h0 : (0 : Int) < (l.length : Int)) : w.cell? ⟨bk, o, none⟩ = some (.string (rdOf ByteArray.empty l 0)) := by
  obtain ⟨ad, e, hx⟩ := Kd.at_string h.out.reads 0 (by omega) h0
  cases e
  exact hx
theorem TrackS.grown (h : Aside0 (TrackS A c l w0 w)) (hg : w.grownBy w' none) : Aside0 (TrackS A c l w0 w') := TrackS.step h (below_of_grown hg)
theorem TrackS.box (hr : Kd.C Kd.string w A l.length l) {w1 : World} (h : w.alloc (.cells #[.slice A l.length c] 22) = w1) : Aside0 (TrackS A c l w w1) := by
  subst h
  have hb : Below w.heap.size w (w.alloc (.cells #[.slice A l.length c] 22)) := (Below.refl _ _).alloc (Nat.le_refl _) _
  exact ⟨blk_cell (MapKept.heap_alloc w _).1 0, Kd.C_below hr hb, hb⟩
end

set_option linter.unusedSimpArgs false
set_option maxRecDepth 100000
set_option maxHeartbeats 4000000 in
theorem track_short (A : Option Addr) (c : Nat) (l : List ByteArray) (w : World) (hr : Kd.C Kd.string w A l.length l) (hc : l.length ≤ c) (h : ¬ (1 ≤ l.length ∧ l.length ≤ 16)) :
    Calls Tryd.prog 29 #[.slice A l.length c] w fun e w' => e = .returned (.bool false) ∧ Below w.heap.size w w' := by
  generalize hw1 : w.alloc (.cells #[.slice A l.length c] 22) = w1
  have HS1 := TrackS.box hr hw1
  have hc1 := HS1.out.row
  have W1 : Aside0 (impl_within.f (l.length : Int) 1 16 = some false) := ⟨by
    unfold impl_within.f
    split
    · rename_i h1
      exact congrArg some (decide_eq_false (by omega))
    · rfl⟩
  clear h
  go_enter Tryd.func29, Tryd.ntmps29
  go_wp2_with (first
    | (go_at_call 43; refine (impl_size_string.calls A c l _ _ HS1.out.reads hc rfl).mono ?_; rintro e w2 ⟨rfl, hd2⟩; have HS2 := TrackS.step HS1 hd2.below)
    | (go_at_call 30; refine (impl_within.calls _ _ _ false _ W1.out).mono ?_; rintro e w3 ⟨rfl, hd3⟩; have HS3 := TrackS.step HS2 hd3.below))
  go_ret
  exact ⟨rfl, HS3.out.below⟩
theorem within_eq {a b c : Int} (h : b ≤ a) (k : a ≤ c) : impl_within.f a b c = some true := by
  unfold impl_within.f
  rw [if_pos h, decide_eq_true k]
theorem within_ne {a b c : Int} (h : ¬ (b ≤ a ∧ a ≤ c)) : impl_within.f a b c = some false := by
  unfold impl_within.f
  split
  · rename_i h1
    exact congrArg some (decide_eq_false (by omega))
  · rfl
set_option maxHeartbeats 8000000 in
theorem track_long (bk o c : Nat) (l : List ByteArray) (w : World) (hr : Kd.C Kd.string w (some ⟨bk, o, none⟩) l.length l) (hc : l.length ≤ c) (h1 : 1 ≤ l.length) (h2 : l.length ≤ 16) (h : ¬ (1 ≤ (rdOf ByteArray.empty l 0).size ∧ (rdOf ByteArray.empty l 0).size ≤ 16)) :
    Calls Tryd.prog 29 #[.slice (some ⟨bk, o, none⟩) l.length c] w fun e w' => e = .returned (.bool false) ∧ Below w.heap.size w w' := by
  generalize hw1 : w.alloc (.cells #[.slice (some ⟨bk, o, none⟩) l.length c] 22) = w1
  have HS1 := TrackS.box hr hw1
  have hc1 := HS1.out.row
  have h0n : 0 < l.length := by omega
  have h0z : (0 : Int) < (l.length : Int) := by omega
  have W1 : Aside0 (impl_within.f (l.length : Int) 1 16 = some true) := ⟨within_eq (by omega) (by omega)⟩
  have W2 : Aside0 (impl_within.f ((rdOf ByteArray.empty l 0).size : Int) 1 16 = some false) := ⟨within_ne (by omega)⟩
  generalize hs0 : rdOf ByteArray.empty l 0 = s0 at W2
  clear h h1 h2
  go_enter Tryd.func29, Tryd.ntmps29
  go_wp2_with (first
    | (go_at_call 43; refine (impl_size_string.calls (some ⟨bk, o, none⟩) c l _ _ HS1.out.reads hc rfl).mono ?_; rintro e w2 ⟨rfl, hd2⟩; have HS2 := TrackS.step HS1 hd2.below)
    | (go_at_call 30; with_reducible refine (impl_within.calls _ _ _ true _ W1.out).mono ?_; rintro e w3 ⟨rfl, hd3⟩; have HS3 := TrackS.step HS2 hd3.below; have hc3 := HS3.out.row; have hx3 := TrackS.at0 HS3 h0z; rw [hs0] at hx3)
    | (go_at_call 30; with_reducible refine (impl_within.calls _ _ _ false _ W2.out).mono ?_; rintro e w4 ⟨rfl, hd4⟩; have HS4 := TrackS.step HS3 hd4.below))
  go_ret
  exact ⟨rfl, HS4.out.below⟩
set_option maxHeartbeats 16000000 in
theorem track_good (bk o c : Nat) (l : List ByteArray) (w : World) (all : ByteArray) (wrong : Bool) (n : Int) (has : Bool) (hr : Kd.C Kd.string w (some ⟨bk, o, none⟩) l.length l) (hc : l.length ≤ c) (h1 : 1 ≤ l.length) (h2 : l.length ≤ 16) (h3 : 1 ≤ (rdOf ByteArray.empty l 0).size) (h4 : (rdOf ByteArray.empty l 0).size ≤ 16)
    (hj : strings_Join.f l ⟨#[]⟩ = some all) (hw : anyF (wrongP l) l = some wrong) (hn : strings_Count.f all ⟨#[83]⟩ = some n) (hh : strings_Contains.f all ⟨#[71]⟩ = some has) :
    Calls Tryd.prog 29 #[.slice (some ⟨bk, o, none⟩) l.length c] w fun e w' => e = .returned (.bool (if wrong = true then false else if n = 1 then has else false)) ∧ Below w.heap.size w w' := by
  generalize hw1 : w.alloc (.cells #[.slice (some ⟨bk, o, none⟩) l.length c] 22) = w1
  have HS1 := TrackS.box hr hw1
  have hc1 := HS1.out.row
  have h0n : 0 < l.length := by omega
  have h0z : (0 : Int) < (l.length : Int) := by omega
  have W1 : Aside0 (impl_within.f (l.length : Int) 1 16 = some true) := ⟨within_eq (by omega) (by omega)⟩
  have W2 : Aside0 (impl_within.f ((rdOf ByteArray.empty l 0).size : Int) 1 16 = some true) := ⟨within_eq (by omega) (by omega)⟩
  generalize hs0 : rdOf ByteArray.empty l 0 = s0 at W2
  have HJ := Aside0.mk hj
  have HN := Aside0.mk hn
  have HH := Aside0.mk hh
  have HW := Aside0.mk hw
  have hpred : ∀ w5, Aside0 (TrackS (some ⟨bk, o, none⟩) c l w w5) → Aside0 (Calls Tryd.prog 45 #[.slice (some ⟨bk, o, none⟩) l.length c, .func (.func 46) #[] #[.pointer (some ⟨w.heap.size, 0, none⟩)]] w5 fun e w' => e = .returned (.bool wrong) ∧ Aside0 (TrackS (some ⟨bk, o, none⟩) c l w w')) := fun w5 HS => by
    refine ⟨(containsFunc_str 46 _ (enters_of Tryd.func46 (by kernel_rfl) rfl) (wrongP l) (fun W => Aside0 (TrackS (some ⟨bk, o, none⟩) c l w W)) none (some ⟨bk, o, none⟩) c l wrong w5 (fun x b W hb HW => ?_) (fun W hg => (TrackS.grown HS hg).out.reads) HS hc (by omega) HW.out).mono ?_⟩
    · refine (wrong_calls w.heap.size (some ⟨bk, o, none⟩) c l x b W HW.out.row HW.out.reads hb).mono ?_
      rintro e w' ⟨rfl, hb'⟩
      exact ⟨rfl, TrackS.step HW hb', grown_below hb'⟩
    · rintro e w' ⟨rfl, hg, hI⟩
      exact ⟨rfl, hI⟩
  clear hj hn hh hw h1 h2 h3 h4
  go_enter Tryd.func29, Tryd.ntmps29
  cases wrong <;> by_cases e1 : n = 1
  all_goals
    first | (have e1b : (n == 1) = true := by simpa using e1) | (have e1b : (n == 1) = false := by simpa using e1)
    clear e1
  all_goals go_wp2_with (first
    | (go_at_call 43; refine (impl_size_string.calls (some ⟨bk, o, none⟩) c l _ _ HS1.out.reads hc rfl).mono ?_; rintro e w2 ⟨rfl, hd2⟩; have HS2 := TrackS.step HS1 hd2.below)
    | (go_at_call 30; with_reducible refine (impl_within.calls _ _ _ true _ W1.out).mono ?_; rintro e w3 ⟨rfl, hd3⟩; have HS3 := TrackS.step HS2 hd3.below; have hc3 := HS3.out.row; have hx3 := TrackS.at0 HS3 h0z; rw [hs0] at hx3)
    | (go_at_call 30; with_reducible refine (impl_within.calls _ _ _ true _ W2.out).mono ?_; rintro e w4 ⟨rfl, hd4⟩; have HS4 := TrackS.step HS3 hd4.below; have hc4 := HS4.out.row)
    | (go_at_call 44; refine (strings_Join.calls _ _ l _ all _ HS4.out.reads hc HJ.out).mono ?_; rintro e w5 ⟨rfl, hb5⟩; have HS5 := TrackS.step HS4 hb5; have hc5 := HS5.out.row)
    | (go_at_call 45; refine (hpred _ HS5).out.mono ?_; rintro e w6 ⟨rfl, HS6⟩)
    | (go_at_call 48; refine (strings_Count.calls _ _ n _ HN.out).mono ?_; rintro e w7 ⟨rfl, hb7⟩; have HS7 := TrackS.step HS6 hb7)
    | (go_at_call 49; refine (strings_Contains.calls _ _ has _ HH.out).mono ?_; rintro e w8 ⟨rfl, hb8⟩; have HS8 := TrackS.step HS7 hb8))
  · have e1 : n = 1 := by simpa using e1b
    go_ret
    exact ⟨by simp [e1], HS8.out.below⟩
  · have e1 : ¬ n = 1 := by simpa using e1b
    go_ret
    exact ⟨by simp [e1], HS7.out.below⟩
  · go_ret
    exact ⟨rfl, HS6.out.below⟩
  · go_ret
    exact ⟨rfl, HS6.out.below⟩
theorem impl_IsTrack.calls (A0 : Option Addr) (c0 : Nat) (l0 : List ByteArray) (r : Bool) (w : World) (hr0 : Kd.C Kd.string w A0 l0.length l0) (hc0 : l0.length ≤ c0) (h : impl_IsTrack.f l0 = some r) :
    Calls Tryd.prog 29 #[.slice A0 l0.length c0] w fun e w' => e = .returned (.bool r) ∧ Below w.heap.size w w' := by
  unfold impl_IsTrack.f at h
  by_cases hn : 1 ≤ l0.length ∧ l0.length ≤ 16
  · obtain ⟨ad, e, hx⟩ := Kd.at_string hr0 0 (by omega) (by omega)
    cases e
    have hsp := (spot_of hx).1
    obtain ⟨bk, o, q⟩ := ad
    have hq : q = none := hsp
    subst hq
    by_cases hs : 1 ≤ (rdOf ByteArray.empty l0 0).size ∧ (rdOf ByteArray.empty l0 0).size ≤ 16
    · rw [if_pos ⟨hn.1, hn.2, hs.1, hs.2⟩] at h
      obtain ⟨all, hj, h⟩ := Option.bind_eq_some_iff.1 h
      obtain ⟨wrong, hw, h⟩ := Option.bind_eq_some_iff.1 h
      have hc1 : ∃ n, strings_Count.f all ⟨#[83]⟩ = some n := ⟨_, rfl⟩
      have hc2 : ∃ b, strings_Contains.f all ⟨#[71]⟩ = some b := ⟨_, rfl⟩
      obtain ⟨n, hcn⟩ := hc1
      obtain ⟨has, hch⟩ := hc2
      have hcall := track_good bk o c0 l0 w all wrong n has hr0 hc0 hn.1 hn.2 hs.1 hs.2 hj hw hcn hch
      rw [hcn, hch] at h
      have e : (if wrong = true then false else if n = 1 then has else false) = r := by
        cases wrong <;> by_cases e1 : n = 1 <;> simp [e1] at h ⊢ <;> exact h
      rwa [e] at hcall
    · rw [if_neg (fun q => hs ⟨q.2.2.1, q.2.2.2⟩)] at h
      obtain rfl := Option.some.inj h
      exact track_long bk o c0 l0 w hr0 hc0 hn.1 hn.2 hs
  · rw [if_neg (fun q => hn ⟨q.1, q.2.1⟩)] at h
    obtain rfl := Option.some.inj h
    exact track_short A0 c0 l0 w hr0 hc0 hn
end Go.Proofs.YtjblefcdihmdbaaDoor.Q
