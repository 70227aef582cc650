/-
  The contract of the law FnRaces, out of its walk.
-/
import Derived.Test.YtbmkhdeeengbmaaOutRaces
namespace Go.Proofs.Ytbmkhdeeengbmaa.Q
open Go.RowKit Go.Proofs.YtbmkhdeeengbmaaW.PrintWords Go.Proofs.YtbmkhdeeengbmaaW.PrintLast Go.Proofs.YtbmkhdeeengbmaaW.PrintMore

theorem laws_FnRaces.calls (k : Nat) (A0 : Option Addr) (c0 : Nat) (l0 : List Int) (r : Bool) (w : World) (hr0 : Kd.C (Kd.int .u8) w A0 l0.length l0) (hc0 : l0.length ≤ c0) (h : laws_FnRaces.f k l0 = some r) :
    Calls Try.prog 3 #[.slice A0 l0.length c0] w fun e w' => e = .returned (.bool r) ∧ Below w.heap.size w w' := by
  unfold laws_FnRaces.f at h
  by_cases h0 : (l0.length : Int) > 4096
  · rw [if_pos h0] at h
    obtain rfl := Option.some.inj h
    exact races_big A0 c0 l0 w hr0 hc0 h0
  · rw [if_neg h0] at h
    obtain ⟨⟨n, L, a, s⟩, hd1, h⟩ := Option.bind_eq_some_iff.1 h
    obtain ⟨⟨r1, e1⟩, hi1, h⟩ := Option.bind_eq_some_iff.1 h
    obtain ⟨⟨B, e3⟩, hi3, h⟩ := Option.bind_eq_some_iff.1 h
    obtain ⟨⟨st, e5⟩, hi5, h⟩ := Option.bind_eq_some_iff.1 h
    split at h
    · rename_i g1
      obtain ⟨⟨⟨hs1, hs3⟩, hs5, hlB⟩, hone⟩ := g1
      obtain ⟨⟨n2, L2⟩, hd2, h⟩ := Option.bind_eq_some_iff.1 h
      obtain ⟨⟨P, e7⟩, hi7, h⟩ := Option.bind_eq_some_iff.1 h
      split at h
      · rename_i g2
        obtain ⟨⟨hs7, hlP⟩, htwo⟩ := g2
        obtain ⟨⟨n3, L3, x3, y3⟩, hd3, h⟩ := Option.bind_eq_some_iff.1 h
        obtain ⟨⟨q1, q2, q3⟩, hi9, h⟩ := Option.bind_eq_some_iff.1 h
        split at h
        · rename_i g3
          obtain rfl := Option.some.inj h
          exact races_good k A0 c0 l0 n a s r1 e1 e3 e5 L B st n2 e7 L2 P n3 x3 y3 q1 q2 q3 L3 w hr0 hc0 h0 hd1 hi1 hs1 hi3 hs3 hi5 hs5 hlB hone hd2 hi7 hs7 hlP htwo hd3 hi9 g3
        · cases h
      · cases h
    · cases h
end Go.Proofs.Ytbmkhdeeengbmaa.Q
