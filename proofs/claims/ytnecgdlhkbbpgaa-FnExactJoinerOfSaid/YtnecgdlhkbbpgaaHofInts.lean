/-
  slices.IndexFunc and slices.ContainsFunc over []int64 with a predicate that captures nothing and only reads: whatever the predicate, they come to the plain search. The list within memory's reach.
-/
import Derived.Test.YtnecgdlhkbbpgaaQ1
import Derived.Shelf.Abstract
namespace Go.Proofs.Ytnecgdlhkbbpgaa.Q
open Go.RowKit Go.Proofs.YtnecgdlhkbbpgaaW.PrintWords Go.Proofs.YtnecgdlhkbbpgaaW.PrintLast Go.Proofs.YtnecgdlhkbbpgaaW.PrintMore

/-- The plain search. -/
def idxF {α : Type} (p : α → Option Bool) : List α → Int → Option Int
  | [], _ => some (-1)
  | x :: xs, i => (p x).bind fun b => if b = true then some i else idxF p xs (i + 1)
theorem idxF_range {α : Type} (p : α → Option Bool) (l : List α) : ∀ (i r : Int), idxF p l i = some r → r = -1 ∨ i ≤ r := by
  induction l with
  | nil => intro i r h; simp [idxF] at h; omega
  | cons x xs ih =>
    intro i r h
    simp only [idxF] at h
    obtain ⟨b, hb, h⟩ := Option.bind_eq_some_iff.1 h
    split at h
    · simp at h; omega
    · have := ih _ _ h; omega
def anyF {α : Type} (p : α → Option Bool) : List α → Option Bool
  | [] => some false
  | x :: xs => (p x).bind fun b => if b = true then some true else anyF p xs
theorem anyF_idxF {α : Type} (p : α → Option Bool) (l : List α) : ∀ (i : Int), 0 ≤ i → ∀ b, anyF p l = some b → ∃ r, idxF p l i = some r ∧ decide (0 ≤ r) = b := by
  induction l with
  | nil => intro i hi b h; simp [anyF] at h; subst h; exact ⟨-1, rfl, by decide⟩
  | cons x xs ih =>
    intro i hi b h
    simp only [anyF] at h
    obtain ⟨q, hq, h⟩ := Option.bind_eq_some_iff.1 h
    by_cases e : q = true
    · rw [if_pos e] at h
      simp at h
      subst h
      exact ⟨i, by simp [idxF, hq, e], by simpa using hi⟩
    · rw [if_neg e] at h
      obtain ⟨r, h1, h2⟩ := ih (i + 1) (by omega) b h
      exact ⟨r, by simp [idxF, hq, e, h1], h2⟩

theorem anyF_all (q : Int → Bool) (p : Int → Option Bool) (h : ∀ x, p x = some (!q x)) (l : List Int) : anyF p l = some (!l.all q) := by
  induction l with
  | nil => rfl
  | cons x l ih =>
    simp only [anyF, h, Option.bind_some, List.all_cons, ih]
    cases q x <;> simp

set_option maxHeartbeats 2000000 in
theorem indexFunc_ints (g : Nat) (eg : ∀ args w, (callFunc g args).run Try.prog w = .ok (.enter g args) w) (p : Int → Option Bool)
    (hp : ∀ x b W, p x = some b → Calls Try.prog g #[.int .i64 x] W fun e w' => e = .returned (.bool b) ∧ Drawn0 W w')
    (A : Option Addr) (c : Nat) (l : List Int) (r : Int) (w : World) (hr : Kd.C (Kd.int .i64) w A l.length l) (hc : l.length ≤ c) (hm : l.length ≤ 9223372036854775807) (h : idxF p l 0 = some r) :
    Calls Try.prog 50 #[.slice A l.length c, .func (.func g) #[] #[]] w fun e w' => e = .returned (.int .i64 r) ∧ Drawn0 w w' := by
  have HR := Aside0.mk hr
  have HP := Aside0.mk hp
  have H := Aside0.mk h
  have HC := Aside0.mk hc
  clear hr hp h hc
  go_enter Try.func50, Try.ntmps50
  go_wp2
  go_loopg [5, 8] l.length (fun gg _ s8 wr => ∃ kk : Nat, kk ≤ l.length ∧ l.length - kk ≤ gg ∧ s8 = .int .i64 kk ∧ Aside0 (Drawn0 w wr) ∧ Aside0 (idxF p (l.drop kk) kk = some r))
  case atStart => exact ⟨0, Nat.zero_le _, by omega, rfl, ⟨Drawn0.refl _⟩, ⟨by simpa using H.out⟩⟩
  case round =>
    obtain ⟨kk, hkk, hg, rfl, HD, HI⟩ := hrel
    clear H
    by_cases hlt : kk < l.length
    · have hltz : (kk : Int) < (l.length : Int) := by omega
      obtain ⟨b, hb, HI2⟩ : ∃ b, p l[kk] = some b ∧ Aside0 ((if b = true then some (kk : Int) else idxF p (l.drop (kk + 1)) ((kk : Int) + 1)) = some r) := by
        have hI := HI.out
        rw [List.drop_eq_getElem_cons hlt] at hI
        simp only [idxF] at hI
        obtain ⟨b, hb, hI2⟩ := Option.bind_eq_some_iff.1 hI
        exact ⟨b, hb, ⟨hI2⟩⟩
      have hrw := Kd.C_below HR.out HD.out.below
      obtain ⟨ad, e, hx⟩ := Kd.at_int hrw kk (by omega) hltz
      have hy : rd l (kk : Int) = l[kk] := by simp [rd, List.getD_eq_getElem?_getD, hlt]
      rw [hy, Int.toNat_natCast] at hx
      have hcall := HP.out l[kk] b wr hb
      generalize l[kk] = y at hx hcall
      cases e
      clear hb HI hrw hy
      cases b with
      | true =>
        obtain rfl : (kk : Int) = r := by simpa using HI2.out
        go_wp2_with (go_at_fn g; refine hcall.mono ?_; rintro e w' ⟨rfl, hd'⟩)
        go_ret
        exact ⟨rfl, (Drawn0.mk (by obtain ⟨m, rfl⟩ := HD.out; obtain ⟨m', rfl⟩ := hd'; exact ⟨m + m', World.drewN_drewN ..⟩))⟩
      | false =>
        go_wp2_with (go_at_fn g; refine hcall.mono ?_; rintro e w' ⟨rfl, hd'⟩)
        go_roundg (l.length - (kk + 1))
        case measure => omega
        case rel => exact ⟨kk + 1, by omega, by omega, by go_num, ⟨(Drawn0.mk (by obtain ⟨m, rfl⟩ := HD.out; obtain ⟨m', rfl⟩ := hd'; exact ⟨m + m', World.drewN_drewN ..⟩))⟩, ⟨by simpa using HI2.out⟩⟩
    · have hltz : ¬ (kk : Int) < (l.length : Int) := by omega
      have HI2 : Aside0 (-1 = r) := ⟨by
        have hI := HI.out
        rw [List.drop_eq_nil_of_le (by omega)] at hI
        simpa only [idxF, Option.some.injEq] using hI⟩
      clear HI
      go_wp2
      go_ret
      exact ⟨congrArg (fun z => Ending.returned (.int .i64 z)) HI2.out, HD.out⟩

theorem containsFunc_ints (g : Nat) (eg : ∀ args w, (callFunc g args).run Try.prog w = .ok (.enter g args) w) (p : Int → Option Bool)
    (hp : ∀ x b W, p x = some b → Calls Try.prog g #[.int .i64 x] W fun e w' => e = .returned (.bool b) ∧ Drawn0 W w')
    (A : Option Addr) (c : Nat) (l : List Int) (r : Bool) (w : World) (hr : Kd.C (Kd.int .i64) w A l.length l) (hc : l.length ≤ c) (hm : l.length ≤ 9223372036854775807) (h : anyF p l = some r) :
    Calls Try.prog 40 #[.slice A l.length c, .func (.func g) #[] #[]] w fun e w' => e = .returned (.bool r) ∧ Drawn0 w w' := by
  obtain ⟨q, h1, h2⟩ := anyF_idxF p l 0 (by omega) r h
  have hcall := indexFunc_ints g eg p hp A c l q w hr hc hm h1
  subst h2
  clear hr hc hp h h1 eg
  go_enter Try.func40, Try.ntmps40
  go_wp2_with (go_at_call 50; refine hcall.mono ?_; rintro e w' ⟨rfl, hd'⟩)
  go_ret
  exact ⟨rfl, hd'⟩
end Go.Proofs.Ytnecgdlhkbbpgaa.Q
