/-
  strings.Join out of the library's contract, told as the printed functions are: the parts with the text between them. At most 1,000,000 parts and 140,737,488,355,328 bytes.
-/
import Derived.Test.YtiaajlehmagljaaDoorLays
import Derived.Test.YtiaajlehmagljaaDoorQ0
namespace Go.Proofs.YtiaajlehmagljaaDoor.Q
open Go.RowKit Go.Proofs.YtiaajlehmagljaaDoorW.PrintWords Go.Proofs.YtiaajlehmagljaaDoorW.PrintLast Go.Proofs.YtiaajlehmagljaaDoorW.PrintMore

def strings_Join.f (xs : List ByteArray) (sep : ByteArray) : Option ByteArray :=
  if xs.length ≤ 1000000 ∧ (Lib.join (xs.map (·.data.toList)) sep.data.toList).length ≤ 140737488355328 then some ⟨(Lib.join (xs.map (·.data.toList)) sep.data.toList).toArray⟩ else none
theorem spot_of {w : World} {a : Addr} {v : Value} (h : w.cell? a = some v) : a.spot = none ∧ a.block < w.heap.size := by
  refine ⟨?_, World.block_lt_of_cell? w a h⟩
  unfold World.cell? at h
  split at h
  · split at h
    · cases h
    · rename_i hs
      cases hq : a.spot with
      | none => rfl
      | some q => rw [hq] at hs; exact absurd rfl hs
  · cases h
theorem strings_Join.calls (A0 : Option Addr) (c0 : Nat) (l0 : List ByteArray) (a1 : ByteArray) (r : ByteArray) (w : World) (hr0 : Kd.C Kd.string w A0 l0.length l0) (hc0 : l0.length ≤ c0) (h : strings_Join.f l0 a1 = some r) :
    Calls Tryd.prog 22 #[.slice A0 l0.length c0, .string a1] w fun e w' => e = .returned (.string r) ∧ Below w.heap.size w w' := by
  unfold strings_Join.f at h
  split at h
  rotate_left
  · cases h
  rename_i hl
  obtain rfl := Option.some.inj h
  clear h
  cases l0 with
  | nil =>
    refine (Tryd.strings_Join_none A0 c0 a1 w).mono ?_
    rintro e w1 ⟨rfl, rfl⟩
    exact ⟨rfl, Below.refl _ _⟩
  | cons x xs =>
    obtain ⟨ad, rfl, hc⟩ := Kd.at_string hr0 0 (by omega) (by simp)
    have hs := spot_of (a := ad) (by simpa [Addr.add] using hc)
    obtain ⟨bk, o, q⟩ := ad
    have hq : q = none := hs.1
    subst hq
    refine (Tryd.strings_Join bk o c0 (x :: xs) a1 w (fun j y hy => ?_) hs.2 (by omega) hc0 hl.2).mono ?_
    · have hj : j < (x :: xs).length := by
        rcases Nat.lt_or_ge j (x :: xs).length with hq | hq
        · exact hq
        · rw [List.getElem?_eq_none hq] at hy
          cases hy
      obtain ⟨ad2, e2, hc2⟩ := Kd.at_string hr0 (j : Int) (by omega) (by omega)
      obtain rfl := Option.some.inj e2
      have e3 : (⟨bk, o, none⟩ : Addr).add j = ⟨bk, o + j, none⟩ := by
        unfold Addr.add
        split
        · rename_i h0
          subst h0
          rfl
        · rfl
      rw [Int.toNat_natCast, e3] at hc2
      rw [hc2]
      congr 2
      simp [rdOf, hy]
    · rintro e w1 ⟨rfl, hb⟩
      exact ⟨rfl, hb⟩
end Go.Proofs.YtiaajlehmagljaaDoor.Q
