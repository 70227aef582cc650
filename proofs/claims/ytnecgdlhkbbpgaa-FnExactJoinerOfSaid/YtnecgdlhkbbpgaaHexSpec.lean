/-
  Plain: the reference's search for the least number of cells comes to ways' least costs too. Boards of sides 1 to 8.
-/
import Derived.Test.YtnecgdlhkbbpgaaHexWays
import Derived.Test.YtnecgdlhkbbpgaaQ16
namespace Go.Proofs.Ytnecgdlhkbbpgaa.B
open Go.RowKit Go.Proofs.Ytnecgdlhkbbpgaa.Q Go.Proofs.YtnecgdlhkbbpgaaW.PrintWords Go.Proofs.YtnecgdlhkbbpgaaW.PrintLast

def symOk (n : Nat) : Bool := (List.range (n * n)).all fun c => (nearL n c).all fun x => (nearL n x).contains (c : Int)
theorem sym_all : ((List.range 9).all fun n => symOk n) = true := by decide +kernel
theorem near_sym {n c x : Int} (h1 : 1 ≤ n) (h2 : n ≤ 8) (h3 : 0 ≤ c) (h4 : c < n * n) (hx : x ∈ nearL n c) : c ∈ nearL n x := by
  obtain ⟨n, rfl⟩ := Int.eq_ofNat_of_zero_le (show 0 ≤ n by omega)
  obtain ⟨c, rfl⟩ := Int.eq_ofNat_of_zero_le h3
  have h := List.all_eq_true.1 sym_all n (List.mem_range.2 (by omega))
  have h := List.all_eq_true.1 h c (List.mem_range.2 (by exact_mod_cast h4))
  have h := List.all_eq_true.1 h x hx
  simpa using h
/-- What a list of values tells. -/
def toF (L : List Int) : FarI := fun c => if 0 ≤ c ∧ c < L.length ∧ 0 ≤ rd L c then some (rd L c) else none
theorem toF_some {L : List Int} {c v : Int} (h : toF L c = some v) : 0 ≤ c ∧ c < L.length ∧ rd L c = v ∧ 0 ≤ v := by
  unfold toF at h
  split at h
  · rename_i hc
    obtain rfl := Option.some.inj h
    exact ⟨hc.1, hc.2.1, rfl, hc.2.2⟩
  · cases h
theorem toF_none {L : List Int} {c : Int} (h : toF L c = none) (h0 : 0 ≤ c) (h1 : c < L.length) : rd L c < 0 := by
  unfold toF at h
  split at h
  · cases h
  · rename_i hc
    apply Int.not_le.1
    intro h2
    exact hc ⟨h0, h1, h2⟩
theorem rd_set (L : List Int) (c z v : Int) (h0 : 0 ≤ c) (h1 : c < L.length) (hz : 0 ≤ z) : rd (L.set c.toNat v) z = if z = c then v else rd L z := by
  unfold rd
  by_cases e : z = c
  · subst e
    rw [if_pos rfl, List.getD_eq_getElem?_getD, List.getElem?_set_self (by omega)]
    rfl
  · rw [if_neg e, List.getD_eq_getElem?_getD, List.getElem?_set_ne (by omega), ← List.getD_eq_getElem?_getD]
theorem toF_set (L : List Int) (c v : Int) (h0 : 0 ≤ c) (h1 : c < L.length) (hv : 0 ≤ v) : toF (L.set c.toNat v) = putI (toF L) c v := by
  funext z
  unfold toF putI
  rw [List.length_set]
  by_cases hz : 0 ≤ z
  · rw [rd_set L c z v h0 h1 hz]
    by_cases e : z = c
    · subst e
      simp [h0, h1, hv]
    · simp [e]
  · have e : z ≠ c := by omega
    simp [hz, e]
/-- The least over a cell's neighbours. -/
def pullI (F : FarI) (step : Int) : List Int → Int → Int
  | [], b => b
  | x :: xs, b => pullI F step xs (match F x with
    | none => b
    | some far => if b < 0 ∨ far + step < b then far + step else b)
def CandV (F : FarI) (step : Int) (ms : List Int) (v : Int) : Prop := ∃ x ∈ ms, ∃ far, F x = some far ∧ v = far + step
theorem pull_least (F : FarI) (step : Int) (h0 : 0 ≤ step) (hF : ∀ c v, F c = some v → 0 ≤ v) (S : Int → Prop) (hS : ∀ v, S v → 0 ≤ v) : ∀ (ms D : List Int) (b : Int), Least (fun v => S v ∨ CandV F step D v) b → Least (fun v => S v ∨ CandV F step (D ++ ms) v) (pullI F step ms b)
  | [], D, b, h => by simpa [pullI] using h
  | x :: xs, D, b, h => by
    rw [pullI, show D ++ x :: xs = (D ++ [x]) ++ xs by simp]
    refine pull_least F step h0 hF S hS xs (D ++ [x]) _ ?_
    cases hx : F x with
    | none =>
      refine Least.same h (fun v => ⟨?_, ?_⟩)
      · rintro (hs | ⟨z, hz, far, hf, e⟩)
        · exact Or.inl hs
        · rcases List.mem_append.1 hz with hz | hz
          · exact Or.inr ⟨z, hz, far, hf, e⟩
          · obtain rfl := List.mem_singleton.1 hz
            rw [hx] at hf
            cases hf
      · rintro (hs | ⟨z, hz, far, hf, e⟩)
        · exact Or.inl hs
        · exact Or.inr ⟨z, List.mem_append_left _ hz, far, hf, e⟩
    | some far =>
      refine Least.more h (far + step) (fun v hv => ?_) (fun v => ⟨?_, ?_⟩)
      · rcases hv with hs | ⟨z, _, f2, hf, e⟩
        · exact hS v hs
        · have := hF z f2 hf
          omega
      · rintro (hs | ⟨z, hz, f2, hf, e⟩)
        · exact Or.inl (Or.inl hs)
        · rcases List.mem_append.1 hz with hz | hz
          · exact Or.inl (Or.inr ⟨z, hz, f2, hf, e⟩)
          · obtain rfl := List.mem_singleton.1 hz
            rw [hx] at hf
            obtain rfl := Option.some.inj hf
            exact Or.inr e
      · rintro ((hs | ⟨z, hz, f2, hf, e⟩) | rfl)
        · exact Or.inl hs
        · exact Or.inr ⟨z, List.mem_append_left _ hz, f2, hf, e⟩
        · exact Or.inr ⟨x, by simp, far, hx, rfl⟩
/-- Behind a cell. -/
def behindI (L : List Int) (ch : Bool) (c b : Int) : List Int × Bool := if 0 ≤ b ∧ (rd L c < 0 ∨ b < rd L c) then (L.set c.toNat b, true) else (L, ch)
section
variable {a : Int} {l : List Int} {p : Int}
theorem pull_spec (H : HexOk a l p) (L : List Int) (hL : L.length = l.length) (ch : Bool) (c step : Int) (h0 : 0 ≤ c) (h1 : c < l.length) (hs : 0 ≤ step ∧ step ≤ 1) (hF : ∀ c v, toF L c = some v → v ≤ 64) (ms : List Int) (hms : ∀ x ∈ ms, 0 ≤ x ∧ x < l.length) (hm6 : ms.length ≤ 6) (R : Int × Int) (d : Nat) : ∀ (i : Nat) (b : Int), i + d = ms.length → b ≤ 65 → -1 ≤ b →
    Ev (fun k => spec_NeedOf.l2 k p a (behindI L ch c (pullI (toF L) step (ms.drop i) b)).1 (behindI L ch c (pullI (toF L) step (ms.drop i) b)).2 (c + 1) a l) R → Ev (fun k => spec_NeedOf.l3 k p a L ch c step b ms i a l) R := by
  have hle := H.le
  have hcw : wrap64 (c + 1) = c + 1 := wrap_in (by omega) (by omega)
  induction d with
  | zero =>
    intro i b hi hb hb1 hE
    refine evSucc (fun k => by rw [spec_NeedOf.l3]) ?_
    rw [List.drop_eq_nil_of_le (by omega), pullI] at hE
    refine evF (by omega) ?_
    rw [hcw]
    unfold behindI at hE
    by_cases hb0 : b ≥ 0
    · refine evT hb0 (evT h0 (evT (by omega) ?_))
      by_cases h2 : rd L c < 0
      · rw [if_pos ⟨hb0, Or.inl h2⟩] at hE
        exact evT h2 hE
      · refine evF h2 ?_
        by_cases h3 : b < rd L c
        · rw [if_pos ⟨hb0, Or.inr h3⟩] at hE
          exact evT h3 hE
        · rw [if_neg (fun h => h.2.elim h2 h3)] at hE
          exact evF h3 hE
    · rw [if_neg (fun h => hb0 h.1)] at hE
      exact evF hb0 hE
  | succ d ih =>
    intro i b hi hb hb1 hE
    have hlt : i < ms.length := by omega
    rw [List.drop_eq_getElem_cons hlt, pullI] at hE
    have hx := hms ms[i] (List.getElem_mem hlt)
    have e : rd ms (i : Int) = ms[i] := by simp [rd, List.getD_eq_getElem?_getD, hlt]
    refine evSucc (fun k => by rw [spec_NeedOf.l3]) ?_
    rw [e]
    generalize ms[i] = x at hE hx
    refine evT (by omega) (evT (by omega) (evT hx.1 (evT (by omega) ?_)))
    rw [wrap_in (x := (i : Int) + 1) (by omega) (by omega), show (i : Int) + 1 = ((i + 1 : Nat) : Int) by omega]
    cases hf : toF L x with
    | none =>
      have := toF_none hf hx.1 (by omega)
      rw [hf] at hE
      exact evF (by omega) (ih (i + 1) b (by omega) hb hb1 hE)
    | some far =>
      obtain ⟨_, _, g1, g2⟩ := toF_some hf
      have g3 := hF x far hf
      rw [hf] at hE
      simp only at hE
      refine evT (by omega) ?_
      rw [g1, wrap_in (x := far + step) (by omega) (by omega)]
      by_cases hb0 : b < 0
      · rw [if_pos (Or.inl hb0)] at hE
        exact evT hb0 (ih (i + 1) _ (by omega) (by omega) (by omega) hE)
      · refine evF hb0 ?_
        by_cases hb2 : far + step < b
        · rw [if_pos (Or.inr hb2)] at hE
          exact evT hb2 (ih (i + 1) _ (by omega) (by omega) (by omega) hE)
        · rw [if_neg (fun h => h.elim hb0 hb2)] at hE
          exact evF hb2 (ih (i + 1) _ (by omega) hb hb1 hE)
end
end Go.Proofs.Ytnecgdlhkbbpgaa.B
