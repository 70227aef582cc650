/-
  Plain lemmas on 'Ev' (with enough rounds the printed function answers so).
  slices.IndexFunc and slices.ContainsFunc over []int64 with a predicate that captures nothing and only reads: whatever the predicate, they come to the plain search. The list within memory's reach.
  slices.IndexFunc and slices.ContainsFunc over []int64 with a predicate that captures variables and only reads: whatever the predicate, they come to the plain search. The list within memory's reach.
  slices.DeleteFunc over []int64 with a predicate that captures variables and only reads: whatever the predicate, it comes to the plain choice of what is kept. The row is the caller's own.
  Plain: searches and choices tell no less where their conditions tell no less. No Go in it.
  slices.IndexFunc and slices.ContainsFunc over []int64 with a predicate that makes memory and may write one block of its own (a map): whatever the predicate, they come to the plain search, and what holds of the world behind each call of the predicate is handed on. The list within memory's reach.
  slices.DeleteFunc over []int64 with a predicate that makes memory and may write one block of its own (a map): whatever the predicate, it comes to the plain choice of what is kept, and what holds of the world behind each call of the predicate is handed on. The row is the caller's own.
  Plain lemmas: a search or a choice by a condition that is told at every element of a list, with enough rounds. No Go in them.
  Plain: a row of n numbers as a store of right answers, 'u' where nothing is known. No Go in it.
  A map that the call itself has made, as a store of right answers: every entry stands in a relation 'good' between its key and its value. The good keys are few; the keys of a kind that can be read.
-/
import Derived.Test.YtelfllbjcpndfaaQ0
import Derived.Shelf.Abstract
import Derived.Lib.SliceRun
import Init
import Derived.Maps.OwnSet
import Derived.Maps.OwnOps
import Derived.Below

namespace Go.Proofs.Ytelfllbjcpndfaa.B
open Go.RowKit Go.Proofs.Ytelfllbjcpndfaa.Q Go.Proofs.YtelfllbjcpndfaaW.PrintWords Go.Proofs.YtelfllbjcpndfaaW.PrintLast

theorem evS {α : Type} (r : α) : Ev (fun _ => some r) r := ⟨0, fun _ _ => rfl⟩
theorem evE {α : Type} {g : Nat → Option α} {r r' : α} (h : r = r') (k : Ev g r) : Ev g r' := h ▸ k
theorem evC {α : Type} {o : Option α} {r : α} (h : o = some r) : Ev (fun _ => o) r := ⟨0, fun _ _ => h⟩
theorem evT {α : Type} {c : Prop} [Decidable c] {g f : Nat → Option α} {r : α} (h : c) (k : Ev g r) : Ev (fun n => if c then g n else f n) r := by
  obtain ⟨K, hK⟩ := k
  exact ⟨K, fun n hn => (if_pos h).trans (hK n hn)⟩
theorem evF {α : Type} {c : Prop} [Decidable c] {g f : Nat → Option α} {r : α} (h : ¬ c) (k : Ev f r) : Ev (fun n => if c then g n else f n) r := by
  obtain ⟨K, hK⟩ := k
  exact ⟨K, fun n hn => (if_neg h).trans (hK n hn)⟩
theorem evB {α β : Type} {g : Nat → Option α} {f : Nat → α → Option β} {a : α} {r : β} (h : Ev g a) (k : Ev (fun n => f n a) r) : Ev (fun n => (g n).bind (f n)) r := Ev.bind h k
/-- A bind whose first part is known. -/
theorem evG {α β : Type} {o : Option α} {f : Nat → α → Option β} {a : α} {r : β} (h : o = some a) (k : Ev (fun n => f n a) r) : Ev (fun n => o.bind (f n)) r := by
  subst h
  exact k
theorem evSucc {α : Type} {g f : Nat → Option α} {r : α} (h : ∀ k, g (k + 1) = f k) (k : Ev f r) : Ev g r := Ev.step h k
theorem wrap_in {x : Int} (h0 : -9223372036854775808 ≤ x) (h1 : x ≤ 9223372036854775807) : wrap64 x = x := by
  unfold wrap64
  omega
end Go.Proofs.Ytelfllbjcpndfaa.B


namespace Go.Proofs.Ytelfllbjcpndfaa.Q
open Go.RowKit Go.Proofs.YtelfllbjcpndfaaW.PrintWords Go.Proofs.YtelfllbjcpndfaaW.PrintLast Go.Proofs.YtelfllbjcpndfaaW.PrintMore

/-- The plain search. -/
def idxF {α : Type} (p : α → Option Bool) : List α → Int → Option Int
  | [], _ => some (-1)
  | x :: xs, i => (p x).bind fun b => if b = true then some i else idxF p xs (i + 1)
theorem idxF_range {α : Type} (p : α → Option Bool) (l : List α) : ∀ (i r : Int), idxF p l i = some r → r = -1 ∨ i ≤ r := by
  induction l with
  | nil => intro i r h; simp [idxF] at h; omega
  | cons x xs ih =>
    intro i r h
    simp only [idxF] at h
    obtain ⟨b, hb, h⟩ := Option.bind_eq_some_iff.1 h
    split at h
    · simp at h; omega
    · have := ih _ _ h; omega
def anyF {α : Type} (p : α → Option Bool) : List α → Option Bool
  | [] => some false
  | x :: xs => (p x).bind fun b => if b = true then some true else anyF p xs
theorem anyF_idxF {α : Type} (p : α → Option Bool) (l : List α) : ∀ (i : Int), 0 ≤ i → ∀ b, anyF p l = some b → ∃ r, idxF p l i = some r ∧ decide (0 ≤ r) = b := by
  induction l with
  | nil => intro i hi b h; simp [anyF] at h; subst h; exact ⟨-1, rfl, by decide⟩
  | cons x xs ih =>
    intro i hi b h
    simp only [anyF] at h
    obtain ⟨q, hq, h⟩ := Option.bind_eq_some_iff.1 h
    by_cases e : q = true
    · rw [if_pos e] at h
      simp at h
      subst h
      exact ⟨i, by simp [idxF, hq, e], by simpa using hi⟩
    · rw [if_neg e] at h
      obtain ⟨r, h1, h2⟩ := ih (i + 1) (by omega) b h
      exact ⟨r, by simp [idxF, hq, e, h1], h2⟩

theorem anyF_all (q : Int → Bool) (p : Int → Option Bool) (h : ∀ x, p x = some (!q x)) (l : List Int) : anyF p l = some (!l.all q) := by
  induction l with
  | nil => rfl
  | cons x l ih =>
    simp only [anyF, h, Option.bind_some, List.all_cons, ih]
    cases q x <;> simp

set_option maxHeartbeats 2000000 in
theorem indexFunc_ints (g : Nat) (eg : ∀ args w, (callFunc g args).run Try.prog w = .ok (.enter g args) w) (p : Int → Option Bool)
    (hp : ∀ x b W, p x = some b → Calls Try.prog g #[.int .i64 x] W fun e w' => e = .returned (.bool b) ∧ Drawn0 W w')
    (A : Option Addr) (c : Nat) (l : List Int) (r : Int) (w : World) (hr : Kd.C (Kd.int .i64) w A l.length l) (hc : l.length ≤ c) (hm : l.length ≤ 9223372036854775807) (h : idxF p l 0 = some r) :
    Calls Try.prog 69 #[.slice A l.length c, .func (.func g) #[] #[]] w fun e w' => e = .returned (.int .i64 r) ∧ Drawn0 w w' := by
  have HR := Aside0.mk hr
  have HP := Aside0.mk hp
  have H := Aside0.mk h
  have HC := Aside0.mk hc
  clear hr hp h hc
  go_enter Try.func69, Try.ntmps69
  go_wp2
  go_loopg [5, 8] l.length (fun gg _ s8 wr => ∃ kk : Nat, kk ≤ l.length ∧ l.length - kk ≤ gg ∧ s8 = .int .i64 kk ∧ Aside0 (Drawn0 w wr) ∧ Aside0 (idxF p (l.drop kk) kk = some r))
  case atStart => exact ⟨0, Nat.zero_le _, by omega, rfl, ⟨Drawn0.refl _⟩, ⟨by simpa using H.out⟩⟩
  case round =>
    obtain ⟨kk, hkk, hg, rfl, HD, HI⟩ := hrel
    clear H
    by_cases hlt : kk < l.length
    · have hltz : (kk : Int) < (l.length : Int) := by omega
      obtain ⟨b, hb, HI2⟩ : ∃ b, p l[kk] = some b ∧ Aside0 ((if b = true then some (kk : Int) else idxF p (l.drop (kk + 1)) ((kk : Int) + 1)) = some r) := by
        have hI := HI.out
        rw [List.drop_eq_getElem_cons hlt] at hI
        simp only [idxF] at hI
        obtain ⟨b, hb, hI2⟩ := Option.bind_eq_some_iff.1 hI
        exact ⟨b, hb, ⟨hI2⟩⟩
      have hrw := Kd.C_below HR.out HD.out.below
      obtain ⟨ad, e, hx⟩ := Kd.at_int hrw kk (by omega) hltz
      have hy : rd l (kk : Int) = l[kk] := by simp [rd, List.getD_eq_getElem?_getD, hlt]
      rw [hy, Int.toNat_natCast] at hx
      have hcall := HP.out l[kk] b wr hb
      generalize l[kk] = y at hx hcall
      cases e
      clear hb HI hrw hy
      cases b with
      | true =>
        obtain rfl : (kk : Int) = r := by simpa using HI2.out
        go_wp2_with (go_at_fn g; refine hcall.mono ?_; rintro e w' ⟨rfl, hd'⟩)
        go_ret
        exact ⟨rfl, (Drawn0.mk (by obtain ⟨m, rfl⟩ := HD.out; obtain ⟨m', rfl⟩ := hd'; exact ⟨m + m', World.drewN_drewN ..⟩))⟩
      | false =>
        go_wp2_with (go_at_fn g; refine hcall.mono ?_; rintro e w' ⟨rfl, hd'⟩)
        go_roundg (l.length - (kk + 1))
        case measure => omega
        case rel => exact ⟨kk + 1, by omega, by omega, by go_num, ⟨(Drawn0.mk (by obtain ⟨m, rfl⟩ := HD.out; obtain ⟨m', rfl⟩ := hd'; exact ⟨m + m', World.drewN_drewN ..⟩))⟩, ⟨by simpa using HI2.out⟩⟩
    · have hltz : ¬ (kk : Int) < (l.length : Int) := by omega
      have HI2 : Aside0 (-1 = r) := ⟨by
        have hI := HI.out
        rw [List.drop_eq_nil_of_le (by omega)] at hI
        simpa only [idxF, Option.some.injEq] using hI⟩
      clear HI
      go_wp2
      go_ret
      exact ⟨congrArg (fun z => Ending.returned (.int .i64 z)) HI2.out, HD.out⟩

end Go.Proofs.Ytelfllbjcpndfaa.Q


namespace Go.Proofs.Ytelfllbjcpndfaa.Q
open Go.RowKit Go.Proofs.YtelfllbjcpndfaaW.PrintWords Go.Proofs.YtelfllbjcpndfaaW.PrintLast Go.Proofs.YtelfllbjcpndfaaW.PrintMore

set_option maxHeartbeats 2000000 in
theorem indexFunc_caps (g : Nat) (lb : Array Value) (eg : ∀ args w, (callFunc g args).run Try.prog w = .ok (.enter g args) w) (p : Int → Option Bool)
    (A : Option Addr) (c : Nat) (l : List Int) (r : Int) (w : World)
    (hp : ∀ x b W, p x = some b → Below w.heap.size w W → Calls Try.prog g (#[.int .i64 x] ++ lb) W fun e w' => e = .returned (.bool b) ∧ Drawn0 W w') (hr : Kd.C (Kd.int .i64) w A l.length l) (hc : l.length ≤ c) (hm : l.length ≤ 9223372036854775807) (h : idxF p l 0 = some r) :
    Calls Try.prog 69 #[.slice A l.length c, .func (.func g) #[] lb] w fun e w' => e = .returned (.int .i64 r) ∧ Drawn0 w w' := by
  have HR := Aside0.mk hr
  have HP := Aside0.mk hp
  have H := Aside0.mk h
  have HC := Aside0.mk hc
  clear hr hp h hc
  go_enter Try.func69, Try.ntmps69
  go_wp2
  go_loopg [5, 8] l.length (fun gg _ s8 wr => ∃ kk : Nat, kk ≤ l.length ∧ l.length - kk ≤ gg ∧ s8 = .int .i64 kk ∧ Aside0 (Drawn0 w wr) ∧ Aside0 (idxF p (l.drop kk) kk = some r))
  case atStart => exact ⟨0, Nat.zero_le _, by omega, rfl, ⟨Drawn0.refl _⟩, ⟨by simpa using H.out⟩⟩
  case round =>
    obtain ⟨kk, hkk, hg, rfl, HD, HI⟩ := hrel
    clear H
    by_cases hlt : kk < l.length
    · have hltz : (kk : Int) < (l.length : Int) := by omega
      obtain ⟨b, hb, HI2⟩ : ∃ b, p l[kk] = some b ∧ Aside0 ((if b = true then some (kk : Int) else idxF p (l.drop (kk + 1)) ((kk : Int) + 1)) = some r) := by
        have hI := HI.out
        rw [List.drop_eq_getElem_cons hlt] at hI
        simp only [idxF] at hI
        obtain ⟨b, hb, hI2⟩ := Option.bind_eq_some_iff.1 hI
        exact ⟨b, hb, ⟨hI2⟩⟩
      have hrw := Kd.C_below HR.out HD.out.below
      obtain ⟨ad, e, hx⟩ := Kd.at_int hrw kk (by omega) hltz
      have hy : rd l (kk : Int) = l[kk] := by simp [rd, List.getD_eq_getElem?_getD, hlt]
      rw [hy, Int.toNat_natCast] at hx
      have hcall := HP.out l[kk] b wr hb HD.out.below
      generalize l[kk] = y at hx hcall
      cases e
      clear hb HI hrw hy
      cases b with
      | true =>
        obtain rfl : (kk : Int) = r := by simpa using HI2.out
        go_wp2_with (go_at_fn g; refine hcall.mono ?_; rintro e w' ⟨rfl, hd'⟩)
        go_ret
        exact ⟨rfl, (Drawn0.mk (by obtain ⟨m, rfl⟩ := HD.out; obtain ⟨m', rfl⟩ := hd'; exact ⟨m + m', World.drewN_drewN ..⟩))⟩
      | false =>
        go_wp2_with (go_at_fn g; refine hcall.mono ?_; rintro e w' ⟨rfl, hd'⟩)
        go_roundg (l.length - (kk + 1))
        case measure => omega
        case rel => exact ⟨kk + 1, by omega, by omega, by go_num, ⟨(Drawn0.mk (by obtain ⟨m, rfl⟩ := HD.out; obtain ⟨m', rfl⟩ := hd'; exact ⟨m + m', World.drewN_drewN ..⟩))⟩, ⟨by simpa using HI2.out⟩⟩
    · have hltz : ¬ (kk : Int) < (l.length : Int) := by omega
      have HI2 : Aside0 (-1 = r) := ⟨by
        have hI := HI.out
        rw [List.drop_eq_nil_of_le (by omega)] at hI
        simpa only [idxF, Option.some.injEq] using hI⟩
      clear HI
      go_wp2
      go_ret
      exact ⟨congrArg (fun z => Ending.returned (.int .i64 z)) HI2.out, HD.out⟩

end Go.Proofs.Ytelfllbjcpndfaa.Q


namespace Go.Proofs.Ytelfllbjcpndfaa.Q
open Go.RowKit Go.Proofs.YtelfllbjcpndfaaW.PrintWords Go.Proofs.YtelfllbjcpndfaaW.PrintLast Go.Proofs.YtelfllbjcpndfaaW.PrintMore

/-- What is kept. -/
def delP (p : Int → Option Bool) : List Int → Option (List Int)
  | [] => some []
  | x :: xs => (p x).bind fun b => (delP p xs).bind fun l => some (if b = true then l else x :: l)
theorem delP_idxF (p : Int → Option Bool) (l : List Int) : ∀ (i : Int) (r : List Int), delP p l = some r →
    ∃ q, idxF p l i = some q ∧ ((q = -1 ∧ r = l) ∨ ∃ (k : Nat) (rest : List Int), q = i + k ∧ k < l.length ∧ delP p (l.drop (k + 1)) = some rest ∧ r = l.take k ++ rest) := by
  induction l with
  | nil => intro i r h; simp [delP] at h; exact ⟨-1, rfl, .inl ⟨rfl, h⟩⟩
  | cons x xs ih =>
    intro i r h
    simp only [delP] at h
    obtain ⟨b, hb, h⟩ := Option.bind_eq_some_iff.1 h
    obtain ⟨t, ht, h⟩ := Option.bind_eq_some_iff.1 h
    cases b with
    | true =>
      simp at h
      exact ⟨i, by simp [idxF, hb], .inr ⟨0, t, by omega, by simp, by simpa using ht, by simpa using h.symm⟩⟩
    | false =>
      simp at h
      obtain ⟨q, h1, h2⟩ := ih (i + 1) t ht
      refine ⟨q, by simp [idxF, hb, h1], ?_⟩
      rcases h2 with ⟨e, e2⟩ | ⟨k, rest, e, e2, e3, e4⟩
      · exact .inl ⟨e, by rw [← h, e2]⟩
      · exact .inr ⟨k + 1, rest, by omega, by simp; omega, by simpa using e3, by rw [← h, e4]; simp⟩
theorem delP_len (p : Int → Option Bool) (l : List Int) : ∀ r, delP p l = some r → r.length ≤ l.length := by
  induction l with
  | nil => intro r h; simp [delP] at h; simp [← h]
  | cons x xs ih =>
    intro r h
    simp only [delP] at h
    obtain ⟨b, hb, h⟩ := Option.bind_eq_some_iff.1 h
    obtain ⟨t, ht, h⟩ := Option.bind_eq_some_iff.1 h
    have := ih t ht
    cases b <;> simp at h <;> subst h <;> simp <;> omega
theorem R_zeros {base : Nat} {ok : Nat → Prop} {g n cap : Nat} (d : Nat) : ∀ (o : Nat) (W : World) (xs : List Int), Kd.R (Kd.int .i64) 2 W base ok (.slice (some ⟨g, 0, none⟩) n cap) xs →
    ∃ xs' : List Int, xs'.take o = xs.take o ∧ xs'.length = xs.length ∧ Kd.R (Kd.int .i64) 2 (W.setCells g o (List.replicate d (.int .i64 0))) base ok (.slice (some ⟨g, 0, none⟩) n cap) xs' ∧ W.grownBy (W.setCells g o (List.replicate d (.int .i64 0))) (some g) := by
  induction d with
  | zero => intro o W xs h; exact ⟨xs, rfl, rfl, h, ⟨rfl, rfl, rfl, Nat.le_refl _, fun _ _ _ => rfl⟩⟩
  | succ d ih =>
    intro o W xs h
    have hp := Kd.R_putg h (o : Int) 0
    rw [Int.toNat_natCast] at hp
    obtain ⟨xs', h1, h2, h3, h4⟩ := ih (o + 1) _ _ hp.1
    refine ⟨xs', ?_, by rw [h2]; simp, h3, hp.2.trans h4⟩
    have e := congrArg (List.take o) h1
    rw [List.take_take, List.take_take, Nat.min_eq_left (by omega)] at e
    rw [e, List.take_set, List.set_eq_of_length_le (by simp; omega)]

theorem wrap_next (n : Nat) (h : n < 9223372036854775807) : Value.int .i64 (wrap64 ((n : Int) + 1)) = .int .i64 ((n + 1 : Nat) : Int) := by
  rw [Go.Proofs.Ytelfllbjcpndfaa.B.wrap_in (by omega) (by omega)]
  rfl
theorem zero_i64 (w : World) : (zeroValue 2).run Try.prog w = .ok (.int .i64 0) w := by kernel_rfl

set_option maxHeartbeats 4000000 in
set_option maxRecDepth 100000 in
theorem deleteFunc_draw (g : Nat) (lb : Array Value) (eg : ∀ args w, (callFunc g args).run Try.prog w = .ok (.enter g args) w) (p : Int → Option Bool) (I : World → Prop) (P0_ : Nat → Prop) (u : Value) (l r : List Int) (w0 w : World)
    (hIg : ∀ W W', I W → W.grownBy W' u.ownBlock → I W') (hI : I w) (hp : ∀ x b W, I W → p x = some b → Calls Try.prog g (#[.int .i64 x] ++ lb) W fun e w' => e = .returned (.bool b) ∧ Drawn0 W w')
    (hB : Below w0.heap.size w0 w) (ho0 : Kd.R (Kd.int .i64) 2 w w0.heap.size P0_ u l) (h : delP p l = some r) :
    Calls Try.prog 54 #[u, .func (.func g) #[] lb] w fun e w' => ∃ v0_ : Value, e = .returned v0_ ∧ Kd.R (Kd.int .i64) 2 w' w0.heap.size (fun k_ => (P0_ k_ ∨ w.heap.size ≤ k_)) v0_ r ∧ Below w0.heap.size w0 w' ∧ Kept w w' (fun k_ => P0_ k_) := by
  obtain ⟨q, hq, hcase⟩ := delP_idxF p l 0 r h
  obtain ⟨A, c, rfl, hlc, hC⟩ := Kd.R_reads ho0
  have hgB : ∀ W, Below w.heap.size w W → I W := fun W hb => hIg w W hI ⟨hb.os, hb.tape, hb.output, hb.size, fun k hk _ => hb.block k hk⟩
  have hIF := indexFunc_caps g lb eg p A c l q w (fun x b W hb hW => hp x b W (hgB W hW) hb) hC hlc hC.2.1 hq
  have HO0 := Aside0.mk (show Kd.R (Kd.int .i64) 2 w w0.heap.size (fun k_ => (P0_ k_ ∨ w.heap.size ≤ k_)) (.slice A l.length c) l from Kd.R_mono ho0 (fun k_ hk => (.inl hk)))
  have HB := Aside0.mk hB
  have HP := Aside0.mk hp
  have HG := Aside0.mk hIg
  have HI := Aside0.mk hI
  have HL := Aside0.mk hC.2.1
  have HGB := Aside0.mk hgB
  clear hp hIg hI hB hC hgB h hq ho0
  rcases hcase with ⟨rfl, rfl⟩ | ⟨k, rest, e1, hk, hrest, hr⟩
  · go_enter Try.func54, Try.ntmps54
    go_wp2_with (go_at_call 69; refine hIF.mono ?_; rintro e w1 ⟨rfl, hd1⟩)
    go_ret
    exact ⟨_, rfl, Kd.R_below HO0.out hd1.below, below_then HB.out HB.out.size hd1.below, Kept.below (Kept.refl _ _) hd1.below⟩
  · have hne1 : ((k : Int) == -1) = false := beq_eq_false_iff_ne.2 (by omega)
    obtain rfl : q = k := by omega
    obtain ⟨go, co, eo, gb, gl, cl, hcl⟩ := Kd.R_form HO0.out (by omega)
    injection eo with ea en ec
    subst ea ec
    have GB := Aside0.mk gb
    have HM := Aside0.mk (HO0.out.1 go rfl)
    have HR2 := Aside0.mk hrest
    have HR := Aside0.mk hr
    clear gb gl hcl hrest hr e1 en
    go_enter Try.func54, Try.ntmps54
    go_wp2_with (go_at_call 69; refine hIF.mono ?_; rintro e w1 ⟨rfl, hd1⟩)
    have HO1 := Aside0.mk (Kd.R_below HO0.out hd1.below)
    have HB1 := Aside0.mk (below_then HB.out HB.out.size hd1.below)
    have HK1 := Aside0.mk (Kept.below (Kept.refl w (fun k_ => P0_ k_)) hd1.below)
    have HI1 := Aside0.mk (HGB.out w1 hd1.below)
    clear HO0 HB HI hd1 HGB hIF
    go_loopg [5, 6, 7] l.length (fun gg s5 s6 _ wr => ∃ (i j : Nat) (dk t : List Int), s5 = .int .i64 i ∧ s6 = .int .i64 j ∧ i < j ∧ j ≤ l.length ∧ l.length - j ≤ gg ∧ dk.length = l.length ∧ Aside0 (Kd.R (Kd.int .i64) 2 wr w0.heap.size (fun k_ => (P0_ k_ ∨ w.heap.size ≤ k_)) (.slice (some ⟨go, 0, none⟩) l.length c) dk) ∧ Aside0 (I wr) ∧ Aside0 (Below w0.heap.size w0 wr) ∧ Aside0 (Kept w wr (fun k_ => P0_ k_)) ∧ Aside0 (dk.drop j = l.drop j) ∧ Aside0 (delP p (l.drop j) = some t ∧ r = dk.take i ++ t))
    case atStart => exact ⟨k, k + 1, l, rest, rfl, wrap_next _ (by have := HL.out; omega), by omega, by omega, by omega, rfl, HO1, HI1, HB1, HK1, ⟨rfl⟩, ⟨HR2.out, HR.out⟩⟩
    case round =>
      clear HO1 HI1 HB1 HK1 HR2 HR
      obtain ⟨i, j, dk, t, rfl, rfl, hij, hjn, hgg, hdl, HO, HI, HB, HK, HD, HT⟩ := hrel
      by_cases hlt : j < l.length
      · have hltz : (j : Int) < (l.length : Int) := by omega
        have hltz2 : (i : Int) < (l.length : Int) := by omega
        obtain ⟨cj, fj⟩ := Kd.R_celln 0 HO.out (j : Int) (by omega) hltz
        obtain ⟨ci, fi⟩ := Kd.R_celln 0 HO.out (i : Int) (by omega) hltz2
        rw [Int.toNat_natCast] at cj fj ci fi
        have hgl : dk[j]'(by omega) = l[j] := by
          have e := congrArg (fun z => z[0]?) HD.out
          simp only [List.getElem?_drop, Nat.add_zero] at e
          rw [List.getElem?_eq_getElem (by omega), List.getElem?_eq_getElem hlt] at e
          exact Option.some.inj e
        have hy : rdOf 0 dk (j : Int) = l[j] := by rw [← hgl]; simp [rdOf, List.getD_eq_getElem?_getD, show j < dk.length by omega]
        rw [hy] at cj
        obtain ⟨b, t', hb, HT2, HT3⟩ : ∃ b t', p l[j] = some b ∧ Aside0 (delP p (l.drop (j + 1)) = some t') ∧ Aside0 (t = if b = true then t' else l[j] :: t') := by
          have h1 := HT.out.1
          rw [List.drop_eq_getElem_cons hlt] at h1
          simp only [delP] at h1
          obtain ⟨b, hb, h1⟩ := Option.bind_eq_some_iff.1 h1
          obtain ⟨t', ht, h1⟩ := Option.bind_eq_some_iff.1 h1
          exact ⟨b, t', hb, ⟨ht⟩, ⟨(Option.some.inj h1).symm⟩⟩
        have HD2 : Aside0 (dk.drop (j + 1) = l.drop (j + 1)) := ⟨by
          have e := congrArg (List.drop 1) HD.out
          simpa [List.drop_drop] using e⟩
        have hcall := HP.out l[j] b wr HI.out hb
        generalize l[j] = y at cj hcall HT3
        clear hb hy hgl HD
        cases b with
        | true =>
          have HT4 : Aside0 (r = dk.take i ++ t') := ⟨by have := HT.out.2; have := HT3.out; simp_all⟩
          clear HT HT3
          go_wp2_with (go_at_fn g; refine hcall.mono ?_; rintro e w' ⟨rfl, hd⟩)
          go_roundg (l.length - (j + 1))
          case measure => omega
          case rel => exact ⟨i, j + 1, dk, t', rfl, wrap_next _ (by have := HL.out; omega), by omega, by omega, by omega, hdl, ⟨Kd.R_below HO.out hd.below⟩, ⟨HG.out _ _ HI.out ⟨hd.below.os, hd.below.tape, hd.below.output, hd.below.size, fun k hk _ => hd.below.block k hk⟩⟩, ⟨below_then HB.out HB.out.size hd.below⟩, ⟨Kept.below HK.out hd.below⟩, HD2, ⟨HT2.out, HT4.out⟩⟩
        | false =>
          have HT4 : Aside0 (r = (dk.set i y).take (i + 1) ++ t') := ⟨by
            have h1 := HT.out.2
            have h2 := HT3.out
            rw [h1, h2, List.take_succ_eq_append_getElem (by simp; omega)]
            rw [List.take_set, List.set_eq_of_length_le (by simp; omega)]
            simp⟩
          clear HT HT3
          go_wp2_with (go_at_fn g; refine hcall.mono ?_; rintro e w' ⟨rfl, ⟨m, rfl⟩⟩)
          have HOm := Kd.R_below HO.out (Drawn0.mk ⟨m, rfl⟩ : Drawn0 wr (wr.drewN m)).below
          have hd : Below wr.heap.size wr (wr.drewN m) := (Drawn0.mk ⟨m, rfl⟩ : Drawn0 wr (wr.drewN m)).below
          have hpp := Kd.R_putg HOm (i : Int) y
          rw [Int.toNat_natCast] at hpp
          go_roundg (l.length - (j + 1))
          case measure => omega
          case rel =>
            refine ⟨i + 1, j + 1, dk.set i y, t', wrap_next _ (by have := HL.out; omega), wrap_next _ (by have := HL.out; omega), by omega, by omega, by omega, by simpa using hdl, ⟨hpp.1⟩, ⟨?_⟩, ⟨?_⟩, ⟨?_⟩, ⟨?_⟩, ⟨HT2.out, HT4.out⟩⟩
            · exact HG.out _ _ (HG.out _ _ HI.out ⟨hd.os, hd.tape, hd.output, hd.size, fun k hk _ => hd.block k hk⟩) hpp.2
            · exact below_set (below_then HB.out HB.out.size hd) GB.out
            · exact Kept.of_grown hpp.2 (Kept.below HK.out hd) (fun k e => by have := Option.some.inj e; subst this; exact HM.out)
            · rw [List.drop_set_of_lt (by omega)]
              exact HD2.out
      · obtain rfl : j = l.length := by omega
        have hltz : ¬ ((l.length : Int) < (l.length : Int)) := by omega
        have HT5 : Aside0 (r = dk.take i) := ⟨by
          have h1 := HT.out.1
          rw [List.drop_length] at h1
          simp only [delP, Option.some.injEq] at h1
          have h2 := HT.out.2
          rw [← h1, List.append_nil] at h2
          exact h2⟩
        have hcl : ∀ ty, (Builtin.clear_ #[29] ty #[.slice (some ⟨go, i, none⟩) (l.length - i) (c - i)]).run Try.prog wr = .ok (.tuple #[]) (wr.setCells go i (List.replicate (l.length - i) (.int .i64 0))) := fun ty =>
          Lib.run_clear_slice wr _ _ ty _ Try.underlying29 zero_i64 rfl rfl go i _ _ (by omega)
            (fun x hx => by have := (Kd.R_celln 0 HO.out ((i + x : Nat) : Int) (by omega) (by omega)).1; rw [Int.toNat_natCast] at this; rw [this]; rfl)
            (fun x hx => by have := (Kd.R_celln 0 HO.out ((i + x : Nat) : Int) (by omega) (by omega)).2; rw [Int.toNat_natCast] at this; exact this)
        obtain ⟨dk2, z1, z2, z3, z4⟩ := R_zeros (l.length - i) i wr dk HO.out
        have hz2 : dk2.length = l.length := by omega
        have HZ := Aside0.mk (And.intro z1 (And.intro z3 z4))
        clear z1 z2 z3 z4 HT
        go_wp2
        go_ret
        refine ⟨_, rfl, ?_, ?_, ?_⟩
        · rw [HT5.out, ← HZ.out.1]
          exact Kd.R_take HZ.out.2.1 (by omega)
        · have z4 := HZ.out.2.2
          exact HB.out.trans ⟨z4.os, z4.tape, z4.output, z4.size, fun k hk => z4.block k (Nat.lt_of_lt_of_le hk HB.out.size) (fun e => by have := Option.some.inj e; have := GB.out; omega)⟩
        · exact Kept.of_grown HZ.out.2.2 HK.out (fun k e => by have := Option.some.inj e; subst this; exact HM.out)
end Go.Proofs.Ytelfllbjcpndfaa.Q


namespace Go.Proofs.Ytelfllbjcpndfaa.Q
open Go.RowKit Go.Proofs.YtelfllbjcpndfaaW.PrintWords Go.Proofs.YtelfllbjcpndfaaW.PrintLast

theorem anyF_mono {p q : Int → Option Bool} (h : ∀ i, LeO (p i) (q i)) (l : List Int) : LeO (anyF p l) (anyF q l) := by
  induction l with
  | nil => exact LeO.refl _
  | cons x l ih => exact LeO.bind (h x) (fun b => LeO.ite (LeO.refl _) ih)
theorem delP_mono {p q : Int → Option Bool} (h : ∀ i, LeO (p i) (q i)) (l : List Int) : LeO (delP p l) (delP q l) := by
  induction l with
  | nil => exact LeO.refl _
  | cons x l ih => exact LeO.bind (h x) (fun b => LeO.bind ih (fun t => LeO.refl _))
end Go.Proofs.Ytelfllbjcpndfaa.Q


namespace Go.Proofs.Ytelfllbjcpndfaa.Q
open Go.RowKit Go.Proofs.YtelfllbjcpndfaaW.PrintWords Go.Proofs.YtelfllbjcpndfaaW.PrintLast Go.Proofs.YtelfllbjcpndfaaW.PrintMore

theorem grown_below {w w' : World} {row : Option Nat} (h : Below w.heap.size w w') : w.grownBy w' row := ⟨h.os, h.tape, h.output, h.size, fun k hk _ => h.block k hk⟩
theorem below_of_grown {w w' : World} (h : w.grownBy w' none) : Below w.heap.size w w' := ⟨h.os, h.tape, h.output, h.size, fun k hk => h.block k hk (by simp)⟩
theorem grown_then {a b c : World} {row : Option Nat} (h : a.grownBy b row) (k : b.grownBy c row) : a.grownBy c row :=
  ⟨k.os.trans h.os, k.tape.trans h.tape, k.output.trans h.output, Nat.le_trans h.size k.size, fun i hi hn => (k.block i (Nat.lt_of_lt_of_le hi h.size) hn).trans (h.block i hi hn)⟩
theorem grown_refl (w : World) (row : Option Nat) : w.grownBy w row := ⟨rfl, rfl, rfl, Nat.le_refl _, fun _ _ _ => rfl⟩
theorem grown_drew {a b : World} {row : Option Nat} (h : a.grownBy b row) : a.grownBy b.drew row := ⟨h.os, h.tape, h.output, h.size, h.block⟩

/-- What a predicate's call leaves: the answer, what held of the world, and all but one block. -/
def PredInv (g : Nat) (lb : Array Value) (p : Int → Option Bool) (I : World → Prop) (row : Option Nat) : Prop :=
  ∀ x b W, p x = some b → I W → Calls Try.prog g (#[.int .i64 x] ++ lb) W fun e w' => e = .returned (.bool b) ∧ I w' ∧ W.grownBy w' row

set_option maxHeartbeats 2000000 in
theorem indexFunc_inv (g : Nat) (lb : Array Value) (eg : ∀ args w, (callFunc g args).run Try.prog w = .ok (.enter g args) w) (p : Int → Option Bool) (I : World → Prop) (row : Option Nat)
    (A : Option Addr) (c : Nat) (l : List Int) (r : Int) (w : World)
    (hp : PredInv g lb p I row) (hC : ∀ W, w.grownBy W row → Kd.C (Kd.int .i64) W A l.length l) (hI : I w) (hc : l.length ≤ c) (hm : l.length ≤ 9223372036854775807) (h : idxF p l 0 = some r) :
    Calls Try.prog 69 #[.slice A l.length c, .func (.func g) #[] lb] w fun e w' => e = .returned (.int .i64 r) ∧ w.grownBy w' row ∧ I w' := by
  have HR := Aside0.mk hC
  have HP := Aside0.mk hp
  have H := Aside0.mk h
  have HC := Aside0.mk hc
  have HI0 := Aside0.mk hI
  clear hC hp h hc hI
  go_enter Try.func69, Try.ntmps69
  go_wp2
  go_loopg [5, 8] l.length (fun gg _ s8 wr => ∃ kk : Nat, kk ≤ l.length ∧ l.length - kk ≤ gg ∧ s8 = .int .i64 kk ∧ Aside0 (w.grownBy wr row) ∧ Aside0 (I wr) ∧ Aside0 (idxF p (l.drop kk) kk = some r))
  case atStart => exact ⟨0, Nat.zero_le _, by omega, rfl, ⟨grown_refl _ _⟩, HI0, ⟨by simpa using H.out⟩⟩
  case round =>
    obtain ⟨kk, hkk, hg, rfl, HD, HJ, HI⟩ := hrel
    clear H HI0
    by_cases hlt : kk < l.length
    · have hltz : (kk : Int) < (l.length : Int) := by omega
      obtain ⟨b, hb, HI2⟩ : ∃ b, p l[kk] = some b ∧ Aside0 ((if b = true then some (kk : Int) else idxF p (l.drop (kk + 1)) ((kk : Int) + 1)) = some r) := by
        have hI := HI.out
        rw [List.drop_eq_getElem_cons hlt] at hI
        simp only [idxF] at hI
        obtain ⟨b, hb, hI2⟩ := Option.bind_eq_some_iff.1 hI
        exact ⟨b, hb, ⟨hI2⟩⟩
      have hrw := HR.out wr HD.out
      obtain ⟨ad, e, hx⟩ := Kd.at_int hrw kk (by omega) hltz
      have hy : rd l (kk : Int) = l[kk] := by simp [rd, List.getD_eq_getElem?_getD, hlt]
      rw [hy, Int.toNat_natCast] at hx
      have hcall := HP.out l[kk] b wr hb HJ.out
      generalize l[kk] = y at hx hcall
      cases e
      clear hb HI hrw hy HJ
      cases b with
      | true =>
        obtain rfl : (kk : Int) = r := by simpa using HI2.out
        go_wp2_with (go_at_fn g; refine hcall.mono ?_; rintro e w' ⟨rfl, hj', hd'⟩)
        go_ret
        exact ⟨rfl, grown_then HD.out hd', hj'⟩
      | false =>
        go_wp2_with (go_at_fn g; refine hcall.mono ?_; rintro e w' ⟨rfl, hj', hd'⟩)
        go_roundg (l.length - (kk + 1))
        case measure => omega
        case rel => exact ⟨kk + 1, by omega, by omega, by go_num, ⟨grown_then HD.out hd'⟩, ⟨hj'⟩, ⟨by simpa using HI2.out⟩⟩
    · have hltz : ¬ (kk : Int) < (l.length : Int) := by omega
      have HI2 : Aside0 (-1 = r) := ⟨by
        have hI := HI.out
        rw [List.drop_eq_nil_of_le (by omega)] at hI
        simpa only [idxF, Option.some.injEq] using hI⟩
      clear HI
      go_wp2
      go_ret
      exact ⟨congrArg (fun z => Ending.returned (.int .i64 z)) HI2.out, HD.out, HJ.out⟩

end Go.Proofs.Ytelfllbjcpndfaa.Q


namespace Go.Proofs.Ytelfllbjcpndfaa.Q
open Go.RowKit Go.Proofs.YtelfllbjcpndfaaW.PrintWords Go.Proofs.YtelfllbjcpndfaaW.PrintLast Go.Proofs.YtelfllbjcpndfaaW.PrintMore

theorem own_apart {row : Option Nat} {P0 : Nat → Prop} {B n : Nat} (h : ∀ k, row = some k → B ≤ k ∧ k < n ∧ ¬ P0 k) : ∀ k, (P0 k ∨ n ≤ k) → some k ≠ row := by
  intro k hk e
  have := h k e.symm
  rcases hk with h1 | h1
  · exact this.2.2 h1
  · omega
set_option maxHeartbeats 4000000 in
set_option maxRecDepth 100000 in
theorem deleteFunc_inv (g : Nat) (lb : Array Value) (eg : ∀ args w, (callFunc g args).run Try.prog w = .ok (.enter g args) w) (p : Int → Option Bool) (I : World → Prop) (row : Option Nat) (P0_ : Nat → Prop) (u : Value) (l r : List Int) (w0 w : World)
    (hIg : ∀ W W', I W → W.grownBy W' u.ownBlock → I W') (hI : I w) (hp : PredInv g lb p I row) (hrow : ∀ k, row = some k → w0.heap.size ≤ k ∧ k < w.heap.size ∧ ¬ P0_ k)
    (hB : Below w0.heap.size w0 w) (ho0 : Kd.R (Kd.int .i64) 2 w w0.heap.size P0_ u l) (h : delP p l = some r) :
    Calls Try.prog 54 #[u, .func (.func g) #[] lb] w fun e w' => ∃ v0_ : Value, e = .returned v0_ ∧ Kd.R (Kd.int .i64) 2 w' w0.heap.size (fun k_ => (P0_ k_ ∨ w.heap.size ≤ k_)) v0_ r ∧ Below w0.heap.size w0 w' ∧ Kept w w' (fun k_ => P0_ k_ ∨ some k_ = row) ∧ I w' := by
  obtain ⟨q, hq, hcase⟩ := delP_idxF p l 0 r h
  obtain ⟨A, c, rfl, hlc, hC⟩ := Kd.R_reads ho0
  have hIF := indexFunc_inv g lb eg p I row A c l q w hp (fun W hg => (Kd.R_reads' (Kd.R_grown ho0 hg (fun k hk e => (hrow k e.symm).2.2 hk))).2.2) hI hlc hC.2.1 hq
  have HO0 := Aside0.mk (show Kd.R (Kd.int .i64) 2 w w0.heap.size (fun k_ => (P0_ k_ ∨ w.heap.size ≤ k_)) (.slice A l.length c) l from Kd.R_mono ho0 (fun k_ hk => (.inl hk)))
  have HB := Aside0.mk hB
  have HP := Aside0.mk hp
  have HG := Aside0.mk hIg
  have HI := Aside0.mk hI
  have HL := Aside0.mk hC.2.1
  have HW := Aside0.mk hrow
  clear hp hIg hI hB hC hrow h hq ho0
  rcases hcase with ⟨rfl, rfl⟩ | ⟨k, rest, e1, hk, hrest, hr⟩
  · go_enter Try.func54, Try.ntmps54
    go_wp2_with (go_at_call 69; refine hIF.mono ?_; rintro e w1 ⟨rfl, hd1, hi1⟩)
    go_ret
    exact ⟨_, rfl, Kd.R_grown HO0.out hd1 (own_apart HW.out), HB.out.grown hd1 HB.out.size (fun k e => (HW.out k e).1), Kept.of_grown hd1 (Kept.refl _ _) (fun k e => .inl (.inr e.symm)), hi1⟩
  · have hne1 : ((k : Int) == -1) = false := beq_eq_false_iff_ne.2 (by omega)
    obtain rfl : q = k := by omega
    obtain ⟨go, co, eo, gb, gl, cl, hcl⟩ := Kd.R_form HO0.out (by omega)
    injection eo with ea en ec
    subst ea ec
    have GB := Aside0.mk gb
    have HM := Aside0.mk (HO0.out.1 go rfl)
    have HR2 := Aside0.mk hrest
    have HR := Aside0.mk hr
    clear gb gl hcl hrest hr e1 en
    go_enter Try.func54, Try.ntmps54
    go_wp2_with (go_at_call 69; refine hIF.mono ?_; rintro e w1 ⟨rfl, hd1, hi1⟩)
    have HO1 := Aside0.mk (Kd.R_grown HO0.out hd1 (own_apart HW.out))
    have HB1 := Aside0.mk (HB.out.grown hd1 HB.out.size (fun k e => (HW.out k e).1))
    have HK1 := Aside0.mk (Kept.of_grown hd1 (Kept.refl w (fun k_ => P0_ k_ ∨ some k_ = row)) (fun k e => .inl (.inr e.symm)))
    have HI1 := Aside0.mk hi1
    clear HO0 HB HI hd1 hIF hi1
    go_loopg [5, 6, 7] l.length (fun gg s5 s6 _ wr => ∃ (i j : Nat) (dk t : List Int), s5 = .int .i64 i ∧ s6 = .int .i64 j ∧ i < j ∧ j ≤ l.length ∧ l.length - j ≤ gg ∧ dk.length = l.length ∧ Aside0 (Kd.R (Kd.int .i64) 2 wr w0.heap.size (fun k_ => (P0_ k_ ∨ w.heap.size ≤ k_)) (.slice (some ⟨go, 0, none⟩) l.length c) dk) ∧ Aside0 (I wr) ∧ Aside0 (Below w0.heap.size w0 wr) ∧ Aside0 (Kept w wr (fun k_ => P0_ k_ ∨ some k_ = row)) ∧ Aside0 (dk.drop j = l.drop j) ∧ Aside0 (delP p (l.drop j) = some t ∧ r = dk.take i ++ t))
    case atStart => exact ⟨k, k + 1, l, rest, rfl, wrap_next _ (by have := HL.out; omega), by omega, by omega, by omega, rfl, HO1, HI1, HB1, HK1, ⟨rfl⟩, ⟨HR2.out, HR.out⟩⟩
    case round =>
      clear HO1 HI1 HB1 HK1 HR2 HR
      obtain ⟨i, j, dk, t, rfl, rfl, hij, hjn, hgg, hdl, HO, HI, HB, HK, HD, HT⟩ := hrel
      by_cases hlt : j < l.length
      · have hltz : (j : Int) < (l.length : Int) := by omega
        have hltz2 : (i : Int) < (l.length : Int) := by omega
        obtain ⟨cj, fj⟩ := Kd.R_celln 0 HO.out (j : Int) (by omega) hltz
        obtain ⟨ci, fi⟩ := Kd.R_celln 0 HO.out (i : Int) (by omega) hltz2
        rw [Int.toNat_natCast] at cj fj ci fi
        have hgl : dk[j]'(by omega) = l[j] := by
          have e := congrArg (fun z => z[0]?) HD.out
          simp only [List.getElem?_drop, Nat.add_zero] at e
          rw [List.getElem?_eq_getElem (by omega), List.getElem?_eq_getElem hlt] at e
          exact Option.some.inj e
        have hy : rdOf 0 dk (j : Int) = l[j] := by rw [← hgl]; simp [rdOf, List.getD_eq_getElem?_getD, show j < dk.length by omega]
        rw [hy] at cj
        obtain ⟨b, t', hb, HT2, HT3⟩ : ∃ b t', p l[j] = some b ∧ Aside0 (delP p (l.drop (j + 1)) = some t') ∧ Aside0 (t = if b = true then t' else l[j] :: t') := by
          have h1 := HT.out.1
          rw [List.drop_eq_getElem_cons hlt] at h1
          simp only [delP] at h1
          obtain ⟨b, hb, h1⟩ := Option.bind_eq_some_iff.1 h1
          obtain ⟨t', ht, h1⟩ := Option.bind_eq_some_iff.1 h1
          exact ⟨b, t', hb, ⟨ht⟩, ⟨(Option.some.inj h1).symm⟩⟩
        have HD2 : Aside0 (dk.drop (j + 1) = l.drop (j + 1)) := ⟨by
          have e := congrArg (List.drop 1) HD.out
          simpa [List.drop_drop] using e⟩
        have hcall := HP.out l[j] b wr hb HI.out
        generalize l[j] = y at cj hcall HT3
        clear hb hy hgl HD
        cases b with
        | true =>
          have HT4 : Aside0 (r = dk.take i ++ t') := ⟨by have := HT.out.2; have := HT3.out; simp_all⟩
          clear HT HT3
          go_wp2_with (go_at_fn g; refine hcall.mono ?_; rintro e w' ⟨rfl, hj', hd⟩)
          go_roundg (l.length - (j + 1))
          case measure => omega
          case rel => exact ⟨i, j + 1, dk, t', rfl, wrap_next _ (by have := HL.out; omega), by omega, by omega, by omega, hdl, ⟨Kd.R_grown HO.out hd (own_apart HW.out)⟩, ⟨hj'⟩, ⟨HB.out.grown hd HB.out.size (fun k e => (HW.out k e).1)⟩, ⟨Kept.of_grown hd HK.out (fun k e => .inl (.inr e.symm))⟩, HD2, ⟨HT2.out, HT4.out⟩⟩
        | false =>
          have HT4 : Aside0 (r = (dk.set i y).take (i + 1) ++ t') := ⟨by
            have h1 := HT.out.2
            have h2 := HT3.out
            rw [h1, h2, List.take_succ_eq_append_getElem (by simp; omega)]
            rw [List.take_set, List.set_eq_of_length_le (by simp; omega)]
            simp⟩
          clear HT HT3
          go_wp2_with (go_at_fn g; refine hcall.mono ?_; rintro e w' ⟨rfl, hj', hd⟩; obtain ⟨ci', fi'⟩ := Kd.R_celln 0 (Kd.R_grown HO.out hd (own_apart HW.out)) (i : Int) (by omega) hltz2; rw [Int.toNat_natCast] at ci' fi')
          have HOm := Kd.R_grown HO.out hd (own_apart HW.out)
          have hpp := Kd.R_putg HOm (i : Int) y
          rw [Int.toNat_natCast] at hpp
          go_roundg (l.length - (j + 1))
          case measure => omega
          case rel =>
            refine ⟨i + 1, j + 1, dk.set i y, t', wrap_next _ (by have := HL.out; omega), wrap_next _ (by have := HL.out; omega), by omega, by omega, by omega, by simpa using hdl, ⟨hpp.1⟩, ⟨?_⟩, ⟨?_⟩, ⟨?_⟩, ⟨?_⟩, ⟨HT2.out, HT4.out⟩⟩
            · exact HG.out _ _ hj' hpp.2
            · exact below_set (HB.out.grown hd HB.out.size (fun k e => (HW.out k e).1)) GB.out
            · exact Kept.of_grown hpp.2 (Kept.of_grown hd HK.out (fun k e => .inl (.inr e.symm))) (fun k e => by have := Option.some.inj e; subst this; exact HM.out.imp .inl id)
            · rw [List.drop_set_of_lt (by omega)]
              exact HD2.out
      · obtain rfl : j = l.length := by omega
        have hltz : ¬ ((l.length : Int) < (l.length : Int)) := by omega
        have HT5 : Aside0 (r = dk.take i) := ⟨by
          have h1 := HT.out.1
          rw [List.drop_length] at h1
          simp only [delP, Option.some.injEq] at h1
          have h2 := HT.out.2
          rw [← h1, List.append_nil] at h2
          exact h2⟩
        have hcl : ∀ ty, (Builtin.clear_ #[29] ty #[.slice (some ⟨go, i, none⟩) (l.length - i) (c - i)]).run Try.prog wr = .ok (.tuple #[]) (wr.setCells go i (List.replicate (l.length - i) (.int .i64 0))) := fun ty =>
          Lib.run_clear_slice wr _ _ ty _ Try.underlying29 zero_i64 rfl rfl go i _ _ (by omega)
            (fun x hx => by have := (Kd.R_celln 0 HO.out ((i + x : Nat) : Int) (by omega) (by omega)).1; rw [Int.toNat_natCast] at this; rw [this]; rfl)
            (fun x hx => by have := (Kd.R_celln 0 HO.out ((i + x : Nat) : Int) (by omega) (by omega)).2; rw [Int.toNat_natCast] at this; exact this)
        obtain ⟨dk2, z1, z2, z3, z4⟩ := R_zeros (l.length - i) i wr dk HO.out
        have hz2 : dk2.length = l.length := by omega
        have HZ := Aside0.mk (And.intro z1 (And.intro z3 z4))
        clear z1 z2 z3 z4 HT
        go_wp2
        go_ret
        refine ⟨_, rfl, ?_, ?_, ?_, HG.out _ _ HI.out HZ.out.2.2⟩
        · rw [HT5.out, ← HZ.out.1]
          exact Kd.R_take HZ.out.2.1 (by omega)
        · have z4 := HZ.out.2.2
          exact HB.out.trans ⟨z4.os, z4.tape, z4.output, z4.size, fun k hk => z4.block k (Nat.lt_of_lt_of_le hk HB.out.size) (fun e => by have := Option.some.inj e; have := GB.out; omega)⟩
        · exact Kept.of_grown HZ.out.2.2 HK.out (fun k e => by have := Option.some.inj e; subst this; exact HM.out.imp .inl id)
end Go.Proofs.Ytelfllbjcpndfaa.Q


namespace Go.Proofs.Ytelfllbjcpndfaa.B
open Go.RowKit Go.Proofs.Ytelfllbjcpndfaa.Q Go.Proofs.YtelfllbjcpndfaaW.PrintWords Go.Proofs.YtelfllbjcpndfaaW.PrintLast

theorem anyF_ev (p : Nat → Int → Option Bool) (q : Int → Bool) (l : List Int) : (∀ x, x ∈ l → Ev (fun k => p k x) (q x)) → Ev (fun k => anyF (p k) l) (l.any q) := by
  induction l with
  | nil => intro h; exact evS _
  | cons x l ih =>
    intro h
    have e := ih (fun y hy => h y (List.mem_cons_of_mem _ hy))
    simp only [anyF, List.any_cons]
    refine evB (h x List.mem_cons_self) ?_
    cases q x with
    | true => exact evT rfl (evS _)
    | false => exact evF (by simp) (evE (by simp) e)
theorem delP_ev (p : Nat → Int → Option Bool) (q : Int → Bool) (l : List Int) : (∀ x, x ∈ l → Ev (fun k => p k x) (q x)) → Ev (fun k => delP (p k) l) (l.filter (fun x => !q x)) := by
  induction l with
  | nil => intro h; exact evS _
  | cons x l ih =>
    intro h
    have e := ih (fun y hy => h y (List.mem_cons_of_mem _ hy))
    simp only [delP, List.filter_cons]
    refine evB (h x List.mem_cons_self) (evB e ?_)
    cases q x with
    | true => exact evE (by simp) (evS _)
    | false => exact evE (by simp) (evS _)
theorem anyF_le {p q : Int → Option Bool} (h : ∀ i, LeO (p i) (q i)) (l : List Int) : LeO (anyF p l) (anyF q l) := by
  induction l with
  | nil => exact LeO.refl _
  | cons x l ih => exact LeO.bind (h x) (fun b => LeO.ite (LeO.refl _) ih)
theorem delP_le {p q : Int → Option Bool} (h : ∀ i, LeO (p i) (q i)) (l : List Int) : LeO (delP p l) (delP q l) := by
  induction l with
  | nil => exact LeO.refl _
  | cons x l ih => exact LeO.bind (h x) (fun b => LeO.bind ih (fun t => LeO.refl _))
end Go.Proofs.Ytelfllbjcpndfaa.B


namespace Go.Proofs.Ytelfllbjcpndfaa.B

def TabU {σ : Type} (u : Int) (ok : σ → Prop) (place : σ → Nat) (val : σ → Int) (n : Nat) (t : List Int) : Prop := t.length = n ∧ ∀ s, ok s → place s < n ∧ (t.getD (place s) 0 = u ∨ t.getD (place s) 0 = val s)
theorem TabU.set {σ : Type} {u : Int} {ok : σ → Prop} {place : σ → Nat} {val : σ → Int} {n : Nat} {t : List Int} (h : TabU u ok place val n t) (hinj : ∀ s s', ok s → ok s' → place s = place s' → s = s') (s : σ) (hs : ok s) : TabU u ok place val n (t.set (place s) (val s)) := by
  refine ⟨by rw [List.length_set]; exact h.1, fun s' hs' => ⟨(h.2 s' hs').1, ?_⟩⟩
  by_cases e : place s = place s'
  · obtain rfl := hinj s s' hs hs' e
    have := (h.2 s hs).1
    right
    rw [List.getD_eq_getElem?_getD, List.getElem?_set_self (by rw [h.1]; exact this)]
    rfl
  · have := (h.2 s' hs').2
    rw [List.getD_eq_getElem?_getD, List.getElem?_set_ne e, ← List.getD_eq_getElem?_getD]
    exact this
theorem TabU.new {σ : Type} {u : Int} {ok : σ → Prop} {place : σ → Nat} {val : σ → Int} {n : Nat} (h : ∀ s, ok s → place s < n) : TabU u ok place val n (List.replicate n u) := by
  refine ⟨by simp, fun s hs => ⟨h s hs, .inl ?_⟩⟩
  rw [List.getD_eq_getElem?_getD, List.getElem?_replicate_of_lt (h s hs)]
  rfl
end Go.Proofs.Ytelfllbjcpndfaa.B


namespace Go.Proofs.Ytelfllbjcpndfaa.Q
open Go.RowKit
open Go.Maps (Keyed)

/-- A reader that takes whatever value stands in an entry. -/
def anyV (_ : Value) : Option (DataW Unit × List MemPlace) := some (.nil, [])
/-- Block b is a map each of whose entries is good. -/
def Memo (P : Program) (k : TypeId) (good : Value → Value → Prop) (w : World) (b : Nat) : Prop :=
  ∃ es clock, w.heap[b]? = some (.map es clock) ∧ WideElems.Fit P k anyV es clock ∧ ∀ x ∈ es.toList, good x.key x.val

variable {P : Program} {k : TypeId} {good : Value → Value → Prop} {w : World} {b : Nat}

theorem Memo.made (w : World) (P : Program) (k : TypeId) (good : Value → Value → Prop) : Memo P k good (w.alloc (.map #[] 0)) w.heap.size :=
  ⟨#[], 0, (MapKept.heap_alloc w _).1, ⟨by simp, MapKept.stamped_empty 0, by simp⟩, by simp⟩
theorem Memo.lt (h : Memo P k good w b) : b < w.heap.size := by
  obtain ⟨es, clock, hb, _⟩ := h
  exact (Array.getElem?_eq_some_iff.1 hb).1
theorem Memo.at {w' : World} (h : Memo P k good w b) (e : w'.heap[b]? = w.heap[b]?) : Memo P k good w' b := by
  obtain ⟨es, clock, hb, F, hg⟩ := h
  exact ⟨es, clock, e.trans hb, F, hg⟩
theorem Memo.kept {w' : World} {row : Option Nat} (h : Memo P k good w b) (hg : w.grownBy w' row) (hne : some b ≠ row) : Memo P k good w' b := h.at (hg.block b h.lt hne)
theorem Memo.below {w' : World} (h : Memo P k good w b) (hb : Below w.heap.size w w') : Memo P k good w' b := h.at (hb.block b h.lt)

theorem Memo.look {t e : TypeId} (h : Memo P k good w b) (K : Keyed P k) (ht : P.underlying t = some (.map k e)) {z : Value} (hz : (zeroValue e).run P w = .ok z w) {key : Value} {kl : Lit} (hkey : keyOf P k key = some kl) :
    (Instr.lookup t (.map (some b)) key true).run P w = .ok (.tuple #[z, .bool false]) w ∨ ∃ v, (Instr.lookup t (.map (some b)) key true).run P w = .ok (.tuple #[v, .bool true]) w ∧ good key v := by
  obtain ⟨es, clock, hb, F, hg⟩ := h
  rcases Maps.fit_look true K ht hz hb F hkey with ⟨hrun, _⟩ | ⟨e0, y, he, hk, hrun, _⟩
  · exact Or.inl hrun
  · exact Or.inr ⟨e0.val, hrun, hk ▸ hg e0 he⟩
/-- Numbers below N, no two alike, are at most N. -/
theorem pigeon : ∀ (N : Nat) (l : List Nat), l.Nodup → (∀ x ∈ l, x < N) → l.length ≤ N
  | 0, l, _, h => by
    cases l with
    | nil => simp
    | cons x l => exact absurd (h x List.mem_cons_self) (by omega)
  | N + 1, l, hd, h => by
    by_cases hN : N ∈ l
    · have := pigeon N (l.erase N) (hd.erase N) (fun x hx => by
        have hx' := (hd.mem_erase_iff).1 hx
        have := h x hx'.2
        omega)
      rw [List.length_erase_of_mem hN] at this
      omega
    · have := pigeon N l hd (fun x hx => by
        have := h x hx
        have : x ≠ N := fun e => hN (e ▸ hx)
        omega)
      omega
/-- The good keys are few: they bear different numbers below N. -/
def Few (good : Value → Value → Prop) : Prop := ∃ (code : Value → Nat) (N : Nat), N < maxLen ∧ (∀ x v, good x v → code x < N) ∧ ∀ x v y u, good x v → good y u → code x = code y → x = y
theorem Few.size {good : Value → Value → Prop} (hfew : Few good) {es : Array MapEntry} {clock : Nat} (F : WideElems.Fit P k anyV es clock) (hg : ∀ x ∈ es.toList, good x.key x.val) : es.size < maxLen := by
  obtain ⟨code, N, hN, h1, h2⟩ := hfew
  have hn := ((MapKept.stamped_iff es clock).1 F.stamped).2.2
  have hd : (es.toList.map (fun x => code x.key)).Nodup := by
    unfold List.Nodup
    rw [List.pairwise_map]
    refine hn.imp_of_mem ?_
    intro a b ha hb h e
    exact h (h2 _ _ _ _ (hg a ha) (hg b hb) e)
  have := pigeon N _ hd (fun y hy => by
    obtain ⟨x, hx, rfl⟩ := List.mem_map.1 hy
    exact h1 _ _ (hg x hx))
  simp at this
  omega
theorem Memo.store {t e : TypeId} (h : Memo P k good w b) (hfew : Few good) (K : Keyed P k) (ht : P.underlying t = some (.map k e)) {key val : Value} {kl : Lit} (hkey : keyOf P k key = some kl) (hgood : good key val) :
    ∃ w', (Instr.mapUpdate t (.map (some b)) key val).run P w = .ok () w' ∧ Memo P k good w' b ∧ w.grownBy w' (some b) := by
  obtain ⟨es, clock, hb, F, hg⟩ := h
  obtain ⟨es', clock', hrun, F', _, _, _, hall⟩ := Maps.fit_store (R' := anyV) K ht hb F (hfew.size F hg) (fun _ _ _ _ hz => hz) hkey (val := val) (yv := (.nil, [])) rfl
  refine ⟨_, hrun, ⟨es', clock', ChangeMaps.heap_setBlock_same hb _, F', fun x hx => ?_⟩, ⟨rfl, rfl, rfl, by simp [ChangeMaps.setBlock], fun i _ hi => ChangeMaps.heap_setBlock_other hb _ (fun e => hi (by rw [e]))⟩⟩
  rcases hall x hx with ⟨h1, _⟩ | ⟨h1, h2⟩
  · exact hg x h1
  · rw [h1, h2]
    exact hgood
theorem wpList_mapUpdate_memo (w : World) {ops : Array Oper} {rest : List Oper} {o : Oper} {a : Act} {Q : Exit → Act → World → Prop} (hg : o.guard = none) (m x v : Operand) (t : TypeId) (hop : o.op = Op.mapUpdate t m x v)
    (k e : TypeId) (K : Keyed P k) (ht : P.underlying t = some (.map k e)) (good : Value → Value → Prop) (b : Nat)
    (hm : a.eval m = .map (some b)) (hown : Memo P k good w b) (hfew : Few good) (key val : Value) (kl : Lit) (hx : a.eval x = key) (hv : a.eval v = val) (hkey : keyOf P k key = some kl) (hgood : good key val)
    (hK : ∀ w', Memo P k good w' b → w.grownBy w' (some b) → wpList P ops Q rest (a.put o.dst undef) w') :
    wpList P ops Q (o :: rest) a w := by
  refine wpList_plain hg fun K' hK' => ?_
  obtain ⟨w', hrun, r1, r2⟩ := hown.store hfew K ht hkey hgood
  unfold Oper.wp
  simp [execOp, hop, hm, hx, hv, hrun, Result.andThen]
  exact hK' _ _ (hK w' r1 r2)
end Go.Proofs.Ytelfllbjcpndfaa.Q
