/-
  slices.IndexFunc and slices.ContainsFunc over [][]int64 with a predicate that captures variables and may make memory: whatever the predicate, they come to the plain search; what lay before stays. The list within memory's reach.
-/
import Derived.Test.YtjeiifiacjhfoaaHofStr
namespace Go.Proofs.Ytjeiifiacjhfoaa.Q
open Go.RowKit Go.Proofs.YtjeiifiacjhfoaaW.PrintWords Go.Proofs.YtjeiifiacjhfoaaW.PrintLast Go.Proofs.YtjeiifiacjhfoaaW.PrintMore

def rdRow (xs : List (List Int)) (i : Int) : List Int := xs.getD i.toNat ([] : List Int)
theorem at_row {w : World} {A : Option Addr} {n : Nat} {xs : List (List Int)} (h : Kd.C (Kd.slice 2 (Kd.int .i64)) w A n xs) (i : Int) (h0 : 0 ≤ i) (h1 : i < n) : ∃ ad A0 c0, A = some ad ∧ w.cell? (ad.add i.toNat) = some (.slice A0 (rdRow xs i).length c0) ∧ (rdRow xs i).length ≤ c0 ∧ (Kd.int .i64).C w A0 (rdRow xs i).length (rdRow xs i) := by
  obtain ⟨ad, c, e, _, hK, hc0⟩ := Kd.C_get h ([] : List Int) i h0 h1
  have hc : ∀ j u, c[j]? = some u → w.cell? (ad.add (i.toNat * 1 + j)) = some u := hc0
  obtain ⟨A0, c0, rfl, l0, g0⟩ := hK
  exact ⟨ad, A0, c0, e, by have hq := hc 0 _ rfl; rwa [Nat.mul_one, Nat.add_zero] at hq, l0, g0⟩
/-- What a predicate's call leaves. -/
def PredRow (w : World) (g : Nat) (lb : Array Value) (p : List Int → Option Bool) : Prop :=
  ∀ (A : Option Addr) (c : Nat) (x : List Int) (b : Bool) (W : World), p x = some b → Below w.heap.size w W → Kd.C (Kd.int .i64) W A x.length x → x.length ≤ c → Calls Try.prog g (#[.slice A x.length c] ++ lb) W fun e w' => e = .returned (.bool b) ∧ Below W.heap.size W w'

set_option maxHeartbeats 4000000 in
theorem indexFunc_rows (g : Nat) (lb : Array Value) (eg : ∀ args w, (callFunc g args).run Try.prog w = .ok (.enter g args) w) (p : List Int → Option Bool)
    (A : Option Addr) (c : Nat) (l : List (List Int)) (r : Int) (w : World)
    (hp : PredRow w g lb p) (hr : Kd.C (Kd.slice 2 (Kd.int .i64)) w A l.length l) (hc : l.length ≤ c) (hm : l.length ≤ 9223372036854775807) (h : idxF p l 0 = some r) :
    Calls Try.prog 105 #[.slice A l.length c, .func (.func g) #[] lb] w fun e w' => e = .returned (.int .i64 r) ∧ Below w.heap.size w w' := by
  have HR := Aside0.mk hr
  have HP := Aside0.mk hp
  have H := Aside0.mk h
  have HC := Aside0.mk hc
  clear hr hp h hc
  go_enter Try.func105, Try.ntmps105
  go_wp2
  go_loopg [5, 8] l.length (fun gg _ s8 wr => ∃ kk : Nat, kk ≤ l.length ∧ l.length - kk ≤ gg ∧ s8 = .int .i64 kk ∧ Aside0 (Below w.heap.size w wr) ∧ Aside0 (idxF p (l.drop kk) kk = some r))
  case atStart => exact ⟨0, Nat.zero_le _, by omega, rfl, ⟨Below.refl _ _⟩, ⟨by simpa using H.out⟩⟩
  case round =>
    obtain ⟨kk, hkk, hg, rfl, HD, HI⟩ := hrel
    clear H
    by_cases hlt : kk < l.length
    · have hltz : (kk : Int) < (l.length : Int) := by omega
      obtain ⟨b, hb, HI2⟩ : ∃ b, p l[kk] = some b ∧ Aside0 ((if b = true then some (kk : Int) else idxF p (l.drop (kk + 1)) ((kk : Int) + 1)) = some r) := by
        have hI := HI.out
        rw [List.drop_eq_getElem_cons hlt] at hI
        simp only [idxF] at hI
        obtain ⟨b, hb, hI2⟩ := Option.bind_eq_some_iff.1 hI
        exact ⟨b, hb, ⟨hI2⟩⟩
      have hrw := Kd.C_below HR.out HD.out
      obtain ⟨ad, A0, c0, e, hx, hlen, hrow⟩ := at_row hrw kk (by omega) hltz
      have hy : rdRow l (kk : Int) = l[kk] := by simp [rdRow, List.getD_eq_getElem?_getD, hlt]
      rw [hy, Int.toNat_natCast] at hx
      rw [hy] at hlen hrow
      have hcall := HP.out A0 c0 l[kk] b wr hb HD.out hrow hlen
      generalize l[kk] = y at hx hcall
      cases e
      clear hb HI hrw hy hlen hrow
      cases b with
      | true =>
        obtain rfl : (kk : Int) = r := by simpa using HI2.out
        go_wp2_with (go_at_fn g; refine hcall.mono ?_; rintro e w' ⟨rfl, hd'⟩)
        go_ret
        exact ⟨rfl, below_then HD.out HD.out.size hd'⟩
      | false =>
        go_wp2_with (go_at_fn g; refine hcall.mono ?_; rintro e w' ⟨rfl, hd'⟩)
        go_roundg (l.length - (kk + 1))
        case measure => omega
        case rel => exact ⟨kk + 1, by omega, by omega, by go_num, ⟨below_then HD.out HD.out.size hd'⟩, ⟨by simpa using HI2.out⟩⟩
    · have hltz : ¬ (kk : Int) < (l.length : Int) := by omega
      have HI2 : Aside0 (-1 = r) := ⟨by
        have hI := HI.out
        rw [List.drop_eq_nil_of_le (by omega)] at hI
        simpa only [idxF, Option.some.injEq] using hI⟩
      clear HI
      go_wp2
      go_ret
      exact ⟨congrArg (fun z => Ending.returned (.int .i64 z)) HI2.out, HD.out⟩

theorem containsFunc_rows (g : Nat) (lb : Array Value) (eg : ∀ args w, (callFunc g args).run Try.prog w = .ok (.enter g args) w) (p : List Int → Option Bool)
    (A : Option Addr) (c : Nat) (l : List (List Int)) (r : Bool) (w : World)
    (hp : PredRow w g lb p) (hr : Kd.C (Kd.slice 2 (Kd.int .i64)) w A l.length l) (hc : l.length ≤ c) (hm : l.length ≤ 9223372036854775807) (h : anyF p l = some r) :
    Calls Try.prog 93 #[.slice A l.length c, .func (.func g) #[] lb] w fun e w' => e = .returned (.bool r) ∧ Below w.heap.size w w' := by
  obtain ⟨q, h1, h2⟩ := anyF_idxF p l 0 (by omega) r h
  have hcall := indexFunc_rows g lb eg p A c l q w hp hr hc hm h1
  subst h2
  clear hr hc hp h h1 eg
  go_enter Try.func93, Try.ntmps93
  go_wp2_with (go_at_call 105; refine hcall.mono ?_; rintro e w' ⟨rfl, hd'⟩)
  go_ret
  exact ⟨rfl, hd'⟩
end Go.Proofs.Ytjeiifiacjhfoaa.Q
