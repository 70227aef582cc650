/-
  Whoever begins a race does not lose it: one node more never hurts (the extra node is as good as none). Boards alone, as the facts ask.
-/
import Derived.Test.YtbmkhdeeengbmaaBoardBits
import Derived.Test.YtbmkhdeeengbmaaRaceP
namespace Go.Proofs.Ytbmkhdeeengbmaa.B
open Go.RowKit Go.Proofs.Ytbmkhdeeengbmaa.Q Go.Proofs.YtbmkhdeeengbmaaW.PrintWords Go.Proofs.YtbmkhdeeengbmaaW.PrintLast Go.Proofs.YtbmkhdeeengbmaaW.PrintMore

theorem topR_le {L : List Int} {f : Nat → Nat → Int} {o t : Nat} {m : Int} (l : List Int) : (∀ p ∈ l, bh L f o t p ≤ m) → ∀ b, b ≤ m → topR L f o t l b ≤ m := by
  induction l with
  | nil => intro h b hb; exact hb
  | cons x l ih =>
    intro h b hb
    have hx := h x List.mem_cons_self
    simp only [topR, List.foldl_cons] at ih ⊢
    refine ih (fun y hy => h y (List.mem_cons_of_mem _ hy)) _ ?_
    unfold mx
    split <;> omega
theorem topR_ge {L : List Int} {f : Nat → Nat → Int} {o t : Nat} (l : List Int) : ∀ b, b ≤ topR L f o t l b ∧ ∀ p ∈ l, bh L f o t p ≤ topR L f o t l b := by
  induction l with
  | nil => intro b; exact ⟨Int.le_refl _, fun p hp => by cases hp⟩
  | cons x l ih =>
    intro b
    simp only [topR, List.foldl_cons] at ih ⊢
    obtain ⟨h1, h2⟩ := ih (mx b (bh L f o t x))
    have hm : b ≤ mx b (bh L f o t x) ∧ bh L f o t x ≤ mx b (bh L f o t x) := by unfold mx; split <;> omega
    refine ⟨Int.le_trans hm.1 h1, fun p hp => ?_⟩
    rcases List.mem_cons.1 hp with rfl | hp
    · exact Int.le_trans hm.2 h1
    · exact h2 p hp
theorem rc_ge {n : Int} {L : List Int} {o t : Nat} {p : Int} (h : p ∈ freeN n o t) : bh L (rc n L) o t p ≤ rc n L o t := by
  rw [rc_eq n L o t, if_neg (fun e => by rw [e] at h; cases h)]
  exact (topR_ge _ _).2 p h
theorem rc_le {n : Int} {L : List Int} {o t : Nat} {m : Int} (h0 : 0 ≤ m) (h : ∀ p ∈ freeN n o t, bh L (rc n L) o t p ≤ m) : rc n L o t ≤ m := by
  rw [rc_eq n L o t]
  split
  · exact h0
  · exact topR_le _ h _ (by omega)
section
variable {n : Int} {L : List Int} (hb : boardB n L = true)
include hb
/-- Every line has a node of o. -/
def stops (L : List Int) (o : Nat) : Prop := ∀ (x : Nat) (j : Int), 0 ≤ j → j < L.length → rd L j = (x : Int) → ∃ i, x.testBit i = true ∧ o.testBit i = true
omit hb in
theorem stops_put {o : Nat} (h : stops L o) (p : Int) : stops L (put o p) := fun x j h0 h1 e => by
  obtain ⟨i, h2, h3⟩ := h x j h0 h1 e
  exact ⟨i, h2, sub_put o p i h3⟩
theorem stops_fl {o t : Nat} (h : stops L o) (h2 : Two n.toNat o t) (ht : t < 65536) : fl L t = false := by
  cases c : fl L t with
  | false => rfl
  | true =>
    exfalso
    obtain ⟨x, ⟨j, ⟨h0, h1⟩, e⟩, hs⟩ := (fl_iff hb t ht).1 c
    obtain ⟨i, h3, h4⟩ := h x j h0 h1 e
    exact (dg_three o t i).1 (h2.2.2 i) ⟨h4, hs i h3⟩
theorem no_loss (m : Nat) : ∀ o t : Nat, Two n.toNat o t → fr o t n.toNat < m → stops L o → 0 ≤ rc n L o t ∧ rc n L t o ≤ 0 := by
  obtain ⟨b1, b2, b3⟩ := (boardB_iff n L).1 hb
  induction m with
  | zero => intro o t _ h; omega
  | succ m ih =>
    intro o t h2 hm hs
    constructor
    · by_cases c : freeN n o t = []
      · rw [rc_nil c]; omega
      · obtain ⟨p, hp⟩ := List.exists_mem_of_ne_nil _ c
        refine Int.le_trans ?_ (rc_ge hp)
        have := put_fr hp
        have := (ih (put o p) t (put_two hp h2) (by omega) (stops_put hs p)).2
        unfold bh
        split <;> omega
    · refine rc_le (Int.le_refl 0) (fun p hp => ?_)
      have h3 := put_two hp h2.swap
      have hf := put_fr hp
      have := (ih o (put t p) h3.swap (by rw [fr_swap (put t p) o]; rw [fr_swap t o] at *; have := fr_swap o t n.toNat; omega) hs).1
      have hl := stops_fl hb hs h3.swap (h3.le16 (by omega)).1
      unfold bh
      rw [hl, if_neg (by decide)]
      omega
/-- One node more of one's own, or one less of the other's, never hurts. -/
theorem rc_more (m : Nat) : ∀ o t o' t' : Nat, Two n.toNat o t → Two n.toNat o' t' → fr o t n.toNat + fr o' t' n.toNat < m → sub o o' → sub t' t → fl L o' = false → fl L t = false → rc n L o t ≤ rc n L o' t' := by
  obtain ⟨b1, b2, b3⟩ := (boardB_iff n L).1 hb
  induction m with
  | zero => intro o t o' t' _ _ h; omega
  | succ m ih =>
    intro o t o' t' h2 h2' hm so st fo ft
    obtain ⟨l1, l2⟩ := h2.le16 (by omega)
    obtain ⟨l3, l4⟩ := h2'.le16 (by omega)
    by_cases c : freeN n o t = []
    · rw [rc_nil c]
      refine (no_loss hb (fr o' t' n.toNat + 1) o' t' h2' (by omega) (fun x j h0 h1 e => ?_)).1
      -- a line without a node of o' were in t
      by_cases q : ∃ i, x.testBit i = true ∧ o'.testBit i = true
      · exact q
      · exfalso
        have : fl L t = true := (fl_iff hb t l2).2 ⟨x, ⟨j, ⟨h0, h1⟩, e⟩, fun i hi => by
          obtain ⟨y, hy, _, hy2, _⟩ := line_nat hb j h0 h1
          have hxy : x = y := by have := e.symm.trans hy; exact_mod_cast this
          subst hxy
          have hin : i < n.toNat := by
            rcases Nat.lt_or_ge i n.toNat with d | d
            · exact d
            · rw [bit_ge n.toNat x i hy2 d] at hi; cases hi
          rcases full_bits c hin with d | d
          · exact absurd ⟨i, hi, so i d⟩ q
          · exact d⟩
        rw [ft] at this
        cases this
    · have hge := rc_small n L o' t'
      rw [rc_eq n L o t, if_neg c]
      refine topR_le _ (fun p hp => ?_) _ hge.1
      obtain ⟨⟨p0, p1⟩, p2, p3⟩ := free_bits hp
      have ep : ((p.toNat : Nat) : Int) = p := by omega
      have ht' : t'.testBit p.toNat = false := by
        cases e : t'.testBit p.toNat with
        | false => rfl
        | true => rw [st _ e] at p3; cases p3
      have hput := put_two hp h2
      have hfr := put_fr hp
      -- the move in the better state
      have key : ∀ q, q ∈ freeN n o' t' → sub (put o p) (put o' q) → bh L (rc n L) o t p ≤ rc n L o' t' := by
        intro q hq hs
        refine Int.le_trans ?_ (rc_ge hq)
        have hq2 := put_two hq h2'
        have hqf := put_fr hq
        have e1 := rc_small n L t (put o p)
        unfold bh
        by_cases f1 : fl L (put o' q) = true
        · rw [if_pos f1]
          split <;> omega
        · rw [if_neg f1]
          have f2 : fl L (put o' q) = false := by simpa using f1
          have f3 : ¬ fl L (put o p) = true := fun z => f1 (fl_sub hb (hput.le16 (by omega)).1 (hq2.le16 (by omega)).1 hs z)
          rw [if_neg f3]
          have := ih t' (put o' q) t (put o p) hq2.swap hput.swap (by rw [fr_swap (put o' q) t', fr_swap (put o p) t]; omega) st hs ft f2
          omega
      cases ho : o'.testBit p.toNat with
      | false => exact key p (by rw [← ep]; exact free_mk p1 ho ht') (put_put p so)
      | true =>
        have hs : sub (put o p) o' := put_sub so ho
        by_cases d : freeN n o' t' = []
        · have f3 : ¬ fl L (put o p) = true := fun z => by
            have := fl_sub hb (hput.le16 (by omega)).1 l3 hs z
            rw [fo] at this
            cases this
          rw [rc_nil d]
          unfold bh
          rw [if_neg f3]
          have := (no_loss hb (fr t (put o p) n.toNat + 1) t (put o p) hput.swap (by omega) (fun x j h0 h1 e => by
            by_cases q : ∃ i, x.testBit i = true ∧ t.testBit i = true
            · exact q
            · exfalso
              have : fl L o' = true := (fl_iff hb o' l3).2 ⟨x, ⟨j, ⟨h0, h1⟩, e⟩, fun i hi => by
                obtain ⟨y, hy, _, hy2, _⟩ := line_nat hb j h0 h1
                have hxy : x = y := by have := e.symm.trans hy; exact_mod_cast this
                subst hxy
                have hin : i < n.toNat := by
                  rcases Nat.lt_or_ge i n.toNat with d | d
                  · exact d
                  · rw [bit_ge n.toNat x i hy2 d] at hi; cases hi
                rcases full_bits d hin with d | d
                · exact d
                · exact absurd ⟨i, hi, st i d⟩ q⟩
              rw [fo] at this
              cases this)).1
          omega
        · obtain ⟨q, hq⟩ := List.exists_mem_of_ne_nil _ d
          exact key q hq (fun i hi => sub_put o' q i (hs i hi))
/-- Whoever begins does not lose. -/
theorem rc_start : 0 ≤ rc n L 0 0 := by
  obtain ⟨b1, b2, b3⟩ := (boardB_iff n L).1 hb
  have z : ∀ i, (0 : Nat).testBit i = false := fun i => Nat.zero_testBit i
  have two0 : Two n.toNat 0 0 := ⟨Nat.two_pow_pos _, Nat.two_pow_pos _, fun i => by rw [dg_three]; simp⟩
  have fl0 : fl L 0 = false := by
    cases c : fl L 0 with
    | false => rfl
    | true =>
      exfalso
      obtain ⟨x, ⟨j, ⟨h0, h1⟩, e⟩, hs⟩ := (fl_iff hb 0 (by decide)).1 c
      obtain ⟨y, hy, h3, _, _⟩ := line_nat hb j h0 h1
      have hxy : x = y := by have := e.symm.trans hy; exact_mod_cast this
      subst hxy
      have : x = 0 := Nat.eq_of_testBit_eq (fun i => by
        rw [z]
        cases d : x.testBit i with
        | false => rfl
        | true => have := hs i d; rw [z] at this; cases this)
      omega
  rcases Int.lt_or_le (rc n L 0 0) 0 with h | h
  · exfalso
    have hp : ((0 : Nat) : Int) ∈ freeN n 0 0 := free_mk (by omega) (z 0) (z 0)
    have h1 := rc_ge (L := L) hp
    have hput := put_two hp two0
    have hs := rc_small n L 0 (put 0 ((0 : Nat) : Int))
    unfold bh at h1
    split at h1
    · omega
    · rename_i hf
      have hf2 : fl L (put 0 ((0 : Nat) : Int)) = false := by simpa using hf
      have := rc_more hb (fr 0 (put 0 ((0 : Nat) : Int)) n.toNat + fr 0 0 n.toNat + 1) 0 (put 0 ((0 : Nat) : Int)) 0 0 hput.swap two0 (by omega) (fun i hi => hi) (fun i hi => by rw [z] at hi; cases hi) fl0 hf2
      omega
  · exact h
end
end Go.Proofs.Ytbmkhdeeengbmaa.B
