/-
  Plain: what the program's search for the least number of cells comes to, round by round: values of cells as a function, passes over all cells until none changes anything. No Go in it.
-/
import Derived.Test.YtnecgdlhkbbpgaaNearSame
import Derived.Test.YtnecgdlhkbbpgaaIsHexSame
namespace Go.Proofs.Ytnecgdlhkbbpgaa.B
open Go.RowKit Go.Proofs.Ytnecgdlhkbbpgaa.Q Go.Proofs.YtnecgdlhkbbpgaaW.PrintWords Go.Proofs.YtnecgdlhkbbpgaaW.PrintLast

abbrev FarI := Int → Option Int
def putI (F : FarI) (c v : Int) : FarI := fun z => if z = c then some v else F z
def upto (n : Nat) : List Int := (List.range n).map fun i : Nat => (i : Int)
theorem mem_upto (n : Nat) (c : Int) : c ∈ upto n ↔ 0 ≤ c ∧ c < n := by
  unfold upto
  rw [List.mem_map]
  constructor
  · rintro ⟨i, hi, rfl⟩
    have := List.mem_range.1 hi
    omega
  · rintro ⟨h0, h1⟩
    exact ⟨c.toNat, List.mem_range.2 (by omega), by omega⟩
theorem upto_len (n : Nat) : (upto n).length = n := by simp [upto]
theorem upto_drop (n i : Nat) (h : i < n) : (upto n).drop i = (i : Int) :: (upto n).drop (i + 1) := by
  have hl : i < (upto n).length := by rw [upto_len]; exact h
  rw [List.drop_eq_getElem_cons hl]
  simp [upto]
def costI (l : List Int) (c : Int) : Int := if rd l c = 0 then 1 else 0
def openI (l : List Int) (p c : Int) : Bool := decide (rd l c = 0) || decide (rd l c = p)
def lineI (a p c : Int) : Int := if p = 1 then wrap64 (Int.tdiv c a) else Int.tmod c a
/-- The cells of the first line. -/
def startI (a p : Int) (l : List Int) : List Int → FarI → FarI
  | [], F => F
  | c :: cs, F => startI a p l cs (if lineI a p c = 0 ∧ openI l p c = true then putI F c (costI l c) else F)
def lessI (l : List Int) (n x : Int) (m : Option Int) : Bool := match m with
  | none => true
  | some m => decide (wrap64 (n + costI l x) < m)
/-- A cell's neighbours. -/
def nextI (l : List Int) (p n : Int) : List Int → FarI × Bool → FarI × Bool
  | [], s => s
  | x :: xs, s => nextI l p n xs (if openI l p x = true ∧ lessI l n x (s.1 x) = true then (putI s.1 x (wrap64 (n + costI l x)), true) else s)
/-- A pass over cells. -/
def cellI (a p : Int) (l : List Int) : List Int → FarI × Bool → FarI × Bool
  | [], s => s
  | c :: cs, s => cellI a p l cs (match s.1 c with
    | none => s
    | some n => nextI l p n (nearL a c) s)
def passesI (a p : Int) (l : List Int) : Nat → FarI → Option FarI
  | 0, _ => none
  | k + 1, F => if (cellI a p l (upto l.length) (F, false)).2 = true then passesI a p l k (cellI a p l (upto l.length) (F, false)).1 else some (cellI a p l (upto l.length) (F, false)).1
def bestI (a p : Int) (F : FarI) : List Int → Int → Int
  | [], b => b
  | c :: cs, b => bestI a p F cs (match F c with
    | none => b
    | some v => if lineI a p c = a - 1 ∧ (b < 0 ∨ v < b) then v else b)
theorem passesI_mono (a p : Int) (l : List Int) : ∀ k F r, passesI a p l k F = some r → passesI a p l (k + 1) F = some r
  | 0, _, _, h => by cases h
  | k + 1, F, r, h => by
    rw [passesI] at h ⊢
    split
    · rename_i hc
      rw [if_pos hc] at h
      exact passesI_mono a p l k _ r h
    · rename_i hc
      rw [if_neg hc] at h
      exact h
/-- Least of numbers: -1 for none. -/
def Least (V : Int → Prop) (b : Int) : Prop := (b = -1 ∧ ∀ v, ¬ V v) ∨ (V b ∧ ∀ v, V v → b ≤ v)
theorem Least.eq {V W : Int → Prop} (h : ∀ v, V v ↔ W v) {b c : Int} (hb : Least V b) (hc : Least W c) : b = c := by
  rcases hb with ⟨rfl, h1⟩ | ⟨h1, h2⟩ <;> rcases hc with ⟨rfl, g1⟩ | ⟨g1, g2⟩
  · rfl
  · exact absurd ((h c).2 g1) (h1 c)
  · exact absurd ((h b).1 h1) (g1 b)
  · have := h2 c ((h c).2 g1)
    have := g2 b ((h b).1 h1)
    omega
theorem Least.more {V W : Int → Prop} {b : Int} (hb : Least V b) (v : Int) (hV : ∀ v, V v → 0 ≤ v) (h : ∀ x, W x ↔ (V x ∨ x = v)) : Least W (if b < 0 ∨ v < b then v else b) := by
  rcases hb with ⟨rfl, h1⟩ | ⟨h1, h2⟩
  · rw [if_pos (by omega)]
    refine Or.inr ⟨(h v).2 (Or.inr rfl), fun x hx => ?_⟩
    rcases (h x).1 hx with hx | rfl
    · exact absurd hx (h1 x)
    · exact Int.le_refl _
  · have hb0 := hV b h1
    split
    · rename_i hc
      refine Or.inr ⟨(h v).2 (Or.inr rfl), fun x hx => ?_⟩
      rcases (h x).1 hx with hx | rfl
      · have := h2 x hx
        omega
      · exact Int.le_refl _
    · rename_i hc
      refine Or.inr ⟨(h b).2 (Or.inl h1), fun x hx => ?_⟩
      rcases (h x).1 hx with hx | rfl
      · exact h2 x hx
      · omega
theorem Least.same {V W : Int → Prop} {b : Int} (hb : Least V b) (h : ∀ x, W x ↔ V x) : Least W b := by
  rcases hb with ⟨rfl, h1⟩ | ⟨h1, h2⟩
  · exact Or.inl ⟨rfl, fun v hv => h1 v ((h v).1 hv)⟩
  · exact Or.inr ⟨(h b).2 h1, fun v hv => h2 v ((h v).1 hv)⟩
/-- The values of the last line within a list of cells. -/
def LastV (a p : Int) (F : FarI) (L : List Int) (v : Int) : Prop := ∃ c ∈ L, F c = some v ∧ lineI a p c = a - 1
theorem bestI_least (a p : Int) (F : FarI) (h0 : ∀ c v, F c = some v → 0 ≤ v) : ∀ (L D : List Int) (b : Int), Least (LastV a p F D) b → Least (LastV a p F (D ++ L)) (bestI a p F L b)
  | [], D, b, h => by simpa [bestI] using h
  | c :: cs, D, b, h => by
    rw [bestI, show D ++ c :: cs = (D ++ [c]) ++ cs by simp]
    refine bestI_least a p F h0 cs (D ++ [c]) _ ?_
    cases hc : F c with
    | none =>
      refine Least.same h (fun x => ⟨?_, ?_⟩)
      · rintro ⟨z, hz, hf, hl⟩
        rcases List.mem_append.1 hz with hz | hz
        · exact ⟨z, hz, hf, hl⟩
        · obtain rfl := List.mem_singleton.1 hz
          rw [hc] at hf
          cases hf
      · rintro ⟨z, hz, hf, hl⟩
        exact ⟨z, List.mem_append_left _ hz, hf, hl⟩
    | some v =>
      by_cases hl : lineI a p c = a - 1
      · simp only [hl, true_and]
        refine Least.more h v (fun x ⟨z, _, hz, _⟩ => h0 z x hz) (fun x => ⟨?_, ?_⟩)
        · rintro ⟨z, hz, hf, hl2⟩
          rcases List.mem_append.1 hz with hz | hz
          · exact Or.inl ⟨z, hz, hf, hl2⟩
          · obtain rfl := List.mem_singleton.1 hz
            rw [hc] at hf
            exact Or.inr (Option.some.inj hf).symm
        · rintro (⟨z, hz, hf, hl2⟩ | rfl)
          · exact ⟨z, List.mem_append_left _ hz, hf, hl2⟩
          · exact ⟨c, by simp, hc, hl⟩
      · simp only [hl, false_and, if_false]
        refine Least.same h (fun x => ⟨?_, ?_⟩)
        · rintro ⟨z, hz, hf, hl2⟩
          rcases List.mem_append.1 hz with hz | hz
          · exact ⟨z, hz, hf, hl2⟩
          · obtain rfl := List.mem_singleton.1 hz
            exact absurd hl2 hl
        · rintro ⟨z, hz, hf, hl2⟩
          exact ⟨z, List.mem_append_left _ hz, hf, hl2⟩
/-- Where values stand. -/
def DomI (n : Nat) (F : FarI) : Prop := ∀ c v, F c = some v → 0 ≤ c ∧ c < n ∧ (Lit.int .i64 v).wf = true
theorem DomI.put {n : Nat} {F : FarI} (h : DomI n F) {c v : Int} (h0 : 0 ≤ c) (h1 : c < n) (hv : (Lit.int .i64 v).wf = true) : DomI n (putI F c v) := by
  intro z u hz
  unfold putI at hz
  split at hz
  · rename_i e
    subst e
    obtain rfl := Option.some.inj hz
    exact ⟨h0, h1, hv⟩
  · exact h z u hz
theorem costI_wf (l : List Int) (c : Int) : (Lit.int .i64 (costI l c)).wf = true := by
  unfold costI
  split <;> rfl
end Go.Proofs.Ytnecgdlhkbbpgaa.B
