/-
  slices.IndexFunc and slices.ContainsFunc over []string with a predicate that may make memory: whatever the predicate, they come to the plain search; what holds of the world behind each call of the predicate is handed on. The list within memory's reach.
-/
import Derived.Test.YtjblefcdihmdbaaDoorQ0
import Derived.Shelf.Abstract
namespace Go.Proofs.YtjblefcdihmdbaaDoor.Q
open Go.RowKit Go.Proofs.YtjblefcdihmdbaaDoorW.PrintWords Go.Proofs.YtjblefcdihmdbaaDoorW.PrintLast Go.Proofs.YtjblefcdihmdbaaDoorW.PrintMore

/-- The plain search. -/
def idxF {α : Type} (p : α → Option Bool) : List α → Int → Option Int
  | [], _ => some (-1)
  | x :: xs, i => (p x).bind fun b => if b = true then some i else idxF p xs (i + 1)
theorem idxF_range {α : Type} (p : α → Option Bool) (l : List α) : ∀ (i r : Int), idxF p l i = some r → r = -1 ∨ i ≤ r := by
  induction l with
  | nil => intro i r h; simp [idxF] at h; omega
  | cons x xs ih =>
    intro i r h
    simp only [idxF] at h
    obtain ⟨b, hb, h⟩ := Option.bind_eq_some_iff.1 h
    split at h
    · simp at h; omega
    · have := ih _ _ h; omega
def anyF {α : Type} (p : α → Option Bool) : List α → Option Bool
  | [] => some false
  | x :: xs => (p x).bind fun b => if b = true then some true else anyF p xs
theorem anyF_idxF {α : Type} (p : α → Option Bool) (l : List α) : ∀ (i : Int), 0 ≤ i → ∀ b, anyF p l = some b → ∃ r, idxF p l i = some r ∧ decide (0 ≤ r) = b := by
  induction l with
  | nil => intro i hi b h; simp [anyF] at h; subst h; exact ⟨-1, rfl, by decide⟩
  | cons x xs ih =>
    intro i hi b h
    simp only [anyF] at h
    obtain ⟨q, hq, h⟩ := Option.bind_eq_some_iff.1 h
    by_cases e : q = true
    · rw [if_pos e] at h
      simp at h
      subst h
      exact ⟨i, by simp [idxF, hq, e], by simpa using hi⟩
    · rw [if_neg e] at h
      obtain ⟨r, h1, h2⟩ := ih (i + 1) (by omega) b h
      exact ⟨r, by simp [idxF, hq, e, h1], h2⟩

theorem grown_below {w w' : World} {row : Option Nat} (h : Below w.heap.size w w') : w.grownBy w' row := ⟨h.os, h.tape, h.output, h.size, fun k hk _ => h.block k hk⟩
theorem below_of_grown {w w' : World} (h : w.grownBy w' none) : Below w.heap.size w w' := ⟨h.os, h.tape, h.output, h.size, fun k hk => h.block k hk (by simp)⟩
theorem grown_then {a b c : World} {row : Option Nat} (h : a.grownBy b row) (k : b.grownBy c row) : a.grownBy c row :=
  ⟨k.os.trans h.os, k.tape.trans h.tape, k.output.trans h.output, Nat.le_trans h.size k.size, fun i hi hn => (k.block i (Nat.lt_of_lt_of_le hi h.size) hn).trans (h.block i hi hn)⟩
theorem grown_refl (w : World) (row : Option Nat) : w.grownBy w row := ⟨rfl, rfl, rfl, Nat.le_refl _, fun _ _ _ => rfl⟩
theorem grown_drew {a b : World} {row : Option Nat} (h : a.grownBy b row) : a.grownBy b.drew row := ⟨h.os, h.tape, h.output, h.size, h.block⟩

/-- What a predicate's call leaves: the answer, what held of the world, and all but one block. -/
def PredStr (g : Nat) (lb : Array Value) (p : ByteArray → Option Bool) (I : World → Prop) (row : Option Nat) : Prop :=
  ∀ x b W, p x = some b → I W → Calls Tryd.prog g (#[.string x] ++ lb) W fun e w' => e = .returned (.bool b) ∧ I w' ∧ W.grownBy w' row

set_option maxHeartbeats 2000000 in
theorem indexFunc_str (g : Nat) (lb : Array Value) (eg : ∀ args w, (callFunc g args).run Tryd.prog w = .ok (.enter g args) w) (p : ByteArray → Option Bool) (I : World → Prop) (row : Option Nat)
    (A : Option Addr) (c : Nat) (l : List ByteArray) (r : Int) (w : World)
    (hp : PredStr g lb p I row) (hC : ∀ W, w.grownBy W row → Kd.C Kd.string W A l.length l) (hI : I w) (hc : l.length ≤ c) (hm : l.length ≤ 9223372036854775807) (h : idxF p l 0 = some r) :
    Calls Tryd.prog 50 #[.slice A l.length c, .func (.func g) #[] lb] w fun e w' => e = .returned (.int .i64 r) ∧ w.grownBy w' row ∧ I w' := by
  have HR := Aside0.mk hC
  have HP := Aside0.mk hp
  have H := Aside0.mk h
  have HC := Aside0.mk hc
  have HI0 := Aside0.mk hI
  clear hC hp h hc hI
  go_enter Tryd.func50, Tryd.ntmps50
  go_wp2
  go_loopg [5, 8] l.length (fun gg _ s8 wr => ∃ kk : Nat, kk ≤ l.length ∧ l.length - kk ≤ gg ∧ s8 = .int .i64 kk ∧ Aside0 (w.grownBy wr row) ∧ Aside0 (I wr) ∧ Aside0 (idxF p (l.drop kk) kk = some r))
  case atStart => exact ⟨0, Nat.zero_le _, by omega, rfl, ⟨grown_refl _ _⟩, HI0, ⟨by simpa using H.out⟩⟩
  case round =>
    obtain ⟨kk, hkk, hg, rfl, HD, HJ, HI⟩ := hrel
    clear H HI0
    by_cases hlt : kk < l.length
    · have hltz : (kk : Int) < (l.length : Int) := by omega
      obtain ⟨b, hb, HI2⟩ : ∃ b, p l[kk] = some b ∧ Aside0 ((if b = true then some (kk : Int) else idxF p (l.drop (kk + 1)) ((kk : Int) + 1)) = some r) := by
        have hI := HI.out
        rw [List.drop_eq_getElem_cons hlt] at hI
        simp only [idxF] at hI
        obtain ⟨b, hb, hI2⟩ := Option.bind_eq_some_iff.1 hI
        exact ⟨b, hb, ⟨hI2⟩⟩
      have hrw := HR.out wr HD.out
      obtain ⟨ad, e, hx⟩ := Kd.at_string hrw kk (by omega) hltz
      have hy : rdOf ByteArray.empty l (kk : Int) = l[kk] := by simp [rdOf, List.getD_eq_getElem?_getD, hlt]
      rw [hy, Int.toNat_natCast] at hx
      have hcall := HP.out l[kk] b wr hb HJ.out
      generalize l[kk] = y at hx hcall
      cases e
      clear hb HI hrw hy HJ
      cases b with
      | true =>
        obtain rfl : (kk : Int) = r := by simpa using HI2.out
        go_wp2_with (go_at_fn g; refine hcall.mono ?_; rintro e w' ⟨rfl, hj', hd'⟩)
        go_ret
        exact ⟨rfl, grown_then HD.out hd', hj'⟩
      | false =>
        go_wp2_with (go_at_fn g; refine hcall.mono ?_; rintro e w' ⟨rfl, hj', hd'⟩)
        go_roundg (l.length - (kk + 1))
        case measure => omega
        case rel => exact ⟨kk + 1, by omega, by omega, by go_num, ⟨grown_then HD.out hd'⟩, ⟨hj'⟩, ⟨by simpa using HI2.out⟩⟩
    · have hltz : ¬ (kk : Int) < (l.length : Int) := by omega
      have HI2 : Aside0 (-1 = r) := ⟨by
        have hI := HI.out
        rw [List.drop_eq_nil_of_le (by omega)] at hI
        simpa only [idxF, Option.some.injEq] using hI⟩
      clear HI
      go_wp2
      go_ret
      exact ⟨congrArg (fun z => Ending.returned (.int .i64 z)) HI2.out, HD.out, HJ.out⟩

theorem containsFunc_str (g : Nat) (lb : Array Value) (eg : ∀ args w, (callFunc g args).run Tryd.prog w = .ok (.enter g args) w) (p : ByteArray → Option Bool) (I : World → Prop) (row : Option Nat)
    (A : Option Addr) (c : Nat) (l : List ByteArray) (r : Bool) (w : World)
    (hp : PredStr g lb p I row) (hC : ∀ W, w.grownBy W row → Kd.C Kd.string W A l.length l) (hI : I w) (hc : l.length ≤ c) (hm : l.length ≤ 9223372036854775807) (h : anyF p l = some r) :
    Calls Tryd.prog 45 #[.slice A l.length c, .func (.func g) #[] lb] w fun e w' => e = .returned (.bool r) ∧ w.grownBy w' row ∧ I w' := by
  obtain ⟨q, h1, h2⟩ := anyF_idxF p l 0 (by omega) r h
  have hcall := indexFunc_str g lb eg p I row A c l q w hp hC hI hc hm h1
  subst h2
  clear hC hc hp h h1 eg hI
  go_enter Tryd.func45, Tryd.ntmps45
  go_wp2_with (go_at_call 50; refine hcall.mono ?_; rintro e w' ⟨rfl, hd', hi⟩)
  go_ret
  exact ⟨rfl, hd', hi⟩
end Go.Proofs.YtjblefcdihmdbaaDoor.Q
