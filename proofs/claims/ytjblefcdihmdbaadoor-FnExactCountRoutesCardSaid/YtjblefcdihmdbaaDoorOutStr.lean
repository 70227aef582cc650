/-
  strings.Join, Trim, Count, Contains, Index out of the library's contracts, told as the printed functions are: Join of at most 1,000,000 parts and 140,737,488,355,328 bytes; Trim at a set of ASCII letters; Count, Contains and Index of one letter.
-/
import Derived.Test.YtjblefcdihmdbaaDoorLays
import Derived.Test.YtjblefcdihmdbaaDoorQ0
import Derived.Shelf.Strings.SlTrimAscii
namespace Go.Proofs.YtjblefcdihmdbaaDoor.Q
open Go.RowKit Go.Proofs.YtjblefcdihmdbaaDoorW.PrintWords Go.Proofs.YtjblefcdihmdbaaDoorW.PrintLast Go.Proofs.YtjblefcdihmdbaaDoorW.PrintMore

def BA (l : List UInt8) : ByteArray := ⟨l.toArray⟩
def strings_Join.f (xs : List ByteArray) (sep : ByteArray) : Option ByteArray :=
  if xs.length ≤ 1000000 ∧ (Lib.join (xs.map (·.data.toList)) sep.data.toList).length ≤ 140737488355328 then some (BA (Lib.join (xs.map (·.data.toList)) sep.data.toList)) else none
def strings_Trim.f (s cs : ByteArray) : Option ByteArray :=
  if s.size ≤ 9223372036854775807 ∧ cs.size < 4294967281 ∧ (cs.data.toList.all fun b => decide (b.toNat < 128)) = true then some (BA (Lib.trimS s.data.toList cs.data.toList)) else none
def oneOf (sub : ByteArray) : Option UInt8 := match sub.data.toList with | [c] => some c | _ => none
def strings_Count.f (s sub : ByteArray) : Option Int := (oneOf sub).bind fun c => some (Lib.countByte s.data.toList c : Int)
def strings_Contains.f (s sub : ByteArray) : Option Bool := (oneOf sub).bind fun c => some (decide (0 ≤ Lib.indexByte s.data.toList c))
def strings_Index.f (s sub : ByteArray) : Option Int := (oneOf sub).bind fun c => some (Lib.indexByte s.data.toList c)
theorem oneOf_eq {sub : ByteArray} {c : UInt8} (h : oneOf sub = some c) : sub = ⟨#[c]⟩ := by
  unfold oneOf at h
  obtain ⟨d⟩ := sub
  obtain ⟨l⟩ := d
  match l, h with
  | [x], h =>
    obtain rfl := Option.some.inj h
    rfl
theorem spot_of {w : World} {a : Addr} {v : Value} (h : w.cell? a = some v) : a.spot = none ∧ a.block < w.heap.size := by
  refine ⟨?_, World.block_lt_of_cell? w a h⟩
  unfold World.cell? at h
  split at h
  · split at h
    · cases h
    · rename_i hs
      cases hq : a.spot with
      | none => rfl
      | some q => rw [hq] at hs; exact absurd rfl hs
  · cases h
theorem strings_Join.calls (A0 : Option Addr) (c0 : Nat) (l0 : List ByteArray) (a1 : ByteArray) (r : ByteArray) (w : World) (hr0 : Kd.C Kd.string w A0 l0.length l0) (hc0 : l0.length ≤ c0) (h : strings_Join.f l0 a1 = some r) :
    Calls Tryd.prog 44 #[.slice A0 l0.length c0, .string a1] w fun e w' => e = .returned (.string r) ∧ Below w.heap.size w w' := by
  unfold strings_Join.f at h
  split at h
  rotate_left
  · cases h
  rename_i hl
  obtain rfl := Option.some.inj h
  clear h
  cases l0 with
  | nil =>
    refine (Tryd.strings_Join_none A0 c0 a1 w).mono ?_
    rintro e w1 ⟨rfl, rfl⟩
    exact ⟨rfl, Below.refl _ _⟩
  | cons x xs =>
    obtain ⟨ad, rfl, hc⟩ := Kd.at_string hr0 0 (by omega) (by simp)
    have hs := spot_of (a := ad) (by simpa [Addr.add] using hc)
    obtain ⟨bk, o, q⟩ := ad
    have hq : q = none := hs.1
    subst hq
    refine (Tryd.strings_Join bk o c0 (x :: xs) a1 w (fun j y hy => ?_) hs.2 (by omega) hc0 hl.2).mono ?_
    · have hj : j < (x :: xs).length := by
        rcases Nat.lt_or_ge j (x :: xs).length with hq | hq
        · exact hq
        · rw [List.getElem?_eq_none hq] at hy
          cases hy
      obtain ⟨ad2, e2, hc2⟩ := Kd.at_string hr0 (j : Int) (by omega) (by omega)
      obtain rfl := Option.some.inj e2
      have e3 : (⟨bk, o, none⟩ : Addr).add j = ⟨bk, o + j, none⟩ := by
        unfold Addr.add
        split
        · rename_i h0
          subst h0
          rfl
        · rfl
      rw [Int.toNat_natCast, e3] at hc2
      rw [hc2]
      congr 2
      simp [rdOf, hy]
    · rintro e w1 ⟨rfl, hb⟩
      exact ⟨rfl, hb⟩
theorem strings_Trim.calls (a0 a1 : ByteArray) (r : ByteArray) (w : World) (h : strings_Trim.f a0 a1 = some r) :
    Calls Tryd.prog 47 #[.string a0, .string a1] w fun e w' => e = .returned (.string r) ∧ Below w.heap.size w w' := by
  unfold strings_Trim.f at h
  split at h
  rotate_left
  · cases h
  rename_i hl
  obtain rfl := Option.some.inj h
  exact Any.strings_Trim_laid Tryd.lays160 (by kernel_rfl) a0 a1 w hl.1 hl.2.1 (ascii_of_all hl.2.2)
theorem strings_Count.calls (a0 a1 : ByteArray) (r : Int) (w : World) (h : strings_Count.f a0 a1 = some r) :
    Calls Tryd.prog 48 #[.string a0, .string a1] w fun e w' => e = .returned (.int .i64 r) ∧ Below w.heap.size w w' := by
  obtain ⟨c, hc, h⟩ := Option.bind_eq_some_iff.1 h
  obtain rfl := oneOf_eq hc
  obtain rfl := Option.some.inj h
  refine (Tryd.strings_Count_one a0 c w).mono ?_
  rintro e w1 ⟨rfl, rfl⟩
  exact ⟨rfl, Below.refl _ _⟩
theorem strings_Contains.calls (a0 a1 : ByteArray) (r : Bool) (w : World) (h : strings_Contains.f a0 a1 = some r) :
    Calls Tryd.prog 49 #[.string a0, .string a1] w fun e w' => e = .returned (.bool r) ∧ Below w.heap.size w w' := by
  obtain ⟨c, hc, h⟩ := Option.bind_eq_some_iff.1 h
  obtain rfl := oneOf_eq hc
  obtain rfl := Option.some.inj h
  refine (Tryd.strings_Contains_one a0 c w).mono ?_
  rintro e w1 ⟨rfl, rfl⟩
  exact ⟨rfl, Below.refl _ _⟩
theorem strings_Index.calls (a0 a1 : ByteArray) (r : Int) (w : World) (h : strings_Index.f a0 a1 = some r) :
    Calls Tryd.prog 52 #[.string a0, .string a1] w fun e w' => e = .returned (.int .i64 r) ∧ Below w.heap.size w w' := by
  obtain ⟨c, hc, h⟩ := Option.bind_eq_some_iff.1 h
  obtain rfl := oneOf_eq hc
  obtain rfl := Option.some.inj h
  refine (Tryd.strings_Index_one a0 c w).mono ?_
  rintro e w1 ⟨rfl, rfl⟩
  exact ⟨rfl, Below.refl _ _⟩
end Go.Proofs.YtjblefcdihmdbaaDoor.Q
