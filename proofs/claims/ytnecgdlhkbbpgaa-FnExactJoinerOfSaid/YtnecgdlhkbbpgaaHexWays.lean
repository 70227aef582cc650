/-
  Plain: ways on a hex board and their least costs. Values that are ways' costs and that no step betters are the least costs: there is one such assignment. The program's passes come to it. Boards of sides 1 to 8.
-/
import Derived.Test.YtnecgdlhkbbpgaaOutNeed
namespace Go.Proofs.Ytnecgdlhkbbpgaa.B
open Go.RowKit Go.Proofs.Ytnecgdlhkbbpgaa.Q Go.Proofs.YtnecgdlhkbbpgaaW.PrintWords Go.Proofs.YtnecgdlhkbbpgaaW.PrintLast

/-- A board and a player. -/
structure HexOk (a : Int) (l : List Int) (p : Int) : Prop where
  a1 : 1 ≤ a
  a8 : a ≤ 8
  len : (l.length : Int) = a * a
  cells : ∀ x ∈ l, 0 ≤ x ∧ x ≤ 2
  player : p = 1 ∨ p = 2
theorem HexOk.le {a : Int} {l : List Int} {p : Int} (h : HexOk a l p) : l.length ≤ 64 := by
  obtain ⟨h1, h8, hl, _, _⟩ := h
  have : a = 1 ∨ a = 2 ∨ a = 3 ∨ a = 4 ∨ a = 5 ∨ a = 6 ∨ a = 7 ∨ a = 8 := by omega
  rcases this with rfl | rfl | rfl | rfl | rfl | rfl | rfl | rfl <;> omega
/-- Ways and what they cost. -/
inductive Way (a : Int) (l : List Int) (p : Int) : Int → Int → Prop
  | start (c : Int) (h0 : 0 ≤ c) (h1 : c < l.length) (hl : lineI a p c = 0) (ho : openI l p c = true) : Way a l p c (costI l c)
  | step (c v x : Int) (h : Way a l p c v) (hx : x ∈ nearL a c) (ho : openI l p x = true) : Way a l p x (v + costI l x)
theorem costI_nn (l : List Int) (c : Int) : 0 ≤ costI l c ∧ costI l c ≤ 1 := by
  unfold costI
  split <;> omega
section
variable {a : Int} {l : List Int} {p : Int}
theorem near_in (H : HexOk a l p) {c x : Int} (h0 : 0 ≤ c) (h1 : c < l.length) (hx : x ∈ nearL a c) : 0 ≤ x ∧ x < l.length := by
  obtain ⟨_, _, _, hn⟩ := near_facts a c H.a1 H.a8 h0 (by rw [← H.len]; exact h1)
  rw [H.len]
  exact hn x hx
theorem Way.facts (H : HexOk a l p) {c v : Int} (h : Way a l p c v) : (0 ≤ c ∧ c < l.length) ∧ openI l p c = true ∧ 0 ≤ v := by
  induction h with
  | start c h0 h1 hl ho => exact ⟨⟨h0, h1⟩, ho, (costI_nn l c).1⟩
  | step c v x _ hx ho ih => exact ⟨near_in H ih.1.1 ih.1.2 hx, ho, by have := (costI_nn l x).1; have := ih.2.2; omega⟩
def SoundI (a : Int) (l : List Int) (p : Int) (F : FarI) : Prop := ∀ c v, F c = some v → Way a l p c v
structure ClosedI (a : Int) (l : List Int) (p : Int) (F : FarI) : Prop where
  starts : ∀ c : Int, 0 ≤ c → c < l.length → lineI a p c = 0 → openI l p c = true → ∃ v, F c = some v ∧ v ≤ costI l c
  steps : ∀ c v x, F c = some v → x ∈ nearL a c → openI l p x = true → ∃ u, F x = some u ∧ u ≤ v + costI l x
theorem ClosedI.least {F : FarI} (h : ClosedI a l p F) {c v : Int} (hw : Way a l p c v) : ∃ u, F c = some u ∧ u ≤ v := by
  induction hw with
  | start c h0 h1 hl ho => exact h.starts c h0 h1 hl ho
  | step c v x _ hx ho ih =>
    obtain ⟨u, h1, h2⟩ := ih
    obtain ⟨u', h3, h4⟩ := h.steps c u x h1 hx ho
    exact ⟨u', h3, by omega⟩
theorem far_eq {F G : FarI} (hF : SoundI a l p F) (cF : ClosedI a l p F) (hG : SoundI a l p G) (cG : ClosedI a l p G) : F = G := by
  funext c
  cases e : F c with
  | none =>
    cases e' : G c with
    | none => rfl
    | some u =>
      obtain ⟨u', h1, _⟩ := cF.least (hG c u e')
      rw [e] at h1
      cases h1
  | some v =>
    obtain ⟨u, h1, h2⟩ := cG.least (hF c v e)
    obtain ⟨v', h3, h4⟩ := cF.least (hG c u h1)
    rw [e] at h3
    obtain rfl := Option.some.inj h3
    rw [h1, show u = v by omega]
end
/-! ### Sums over the cells -/
theorem sum_put (f g : Int → Nat) (x : Int) (h : ∀ z, z ≠ x → f z = g z) : ∀ (L : List Int), L.Nodup → x ∈ L → (L.map f).sum + g x = (L.map g).sum + f x
  | [], _, hx => by cases hx
  | y :: L, hd, hx => by
    obtain ⟨hy, hd⟩ := List.nodup_cons.1 hd
    have same : x ∉ L → (L.map f) = (L.map g) := fun hn => List.map_congr_left fun z hz => h z (fun e => hn (e ▸ hz))
    simp only [List.map_cons, List.sum_cons]
    by_cases e : y = x
    · subst e
      rw [same hy]
      omega
    · have hx' : x ∈ L := by
        rcases List.mem_cons.1 hx with h1 | h1
        · exact absurd h1.symm e
        · exact h1
      have := sum_put f g x h L hd hx'
      rw [h y e]
      omega
theorem upto_nodup (n : Nat) : (upto n).Nodup := by
  unfold upto List.Nodup
  rw [List.pairwise_map]
  exact List.nodup_range.imp (fun {a b} h e => h (by omega))
def cardB (F : FarI) (c : Int) : Nat := match F c with
  | none => 0
  | some _ => 1
def cardI (n : Nat) (F : FarI) : Nat := ((upto n).map (cardB F)).sum
theorem mem_le_sum (x : Nat) : ∀ L : List Nat, x ∈ L → x ≤ L.sum
  | [], h => by cases h
  | y :: L, h => by
    rw [List.sum_cons]
    rcases List.mem_cons.1 h with rfl | h
    · omega
    · have := mem_le_sum x L h
      omega
def massI (n : Nat) (F : FarI) : Nat := ((upto n).map fun c => match F c with
  | none => 100
  | some v => v.toNat).sum
theorem card_le (n : Nat) (F : FarI) : cardI n F ≤ n := by
  have : ∀ L : List Int, (L.map (cardB F)).sum ≤ L.length := by
    intro L
    induction L with
    | nil => simp
    | cons x L ih =>
      simp only [List.map_cons, List.sum_cons, List.length_cons]
      have : cardB F x ≤ 1 := by unfold cardB; split <;> omega
      omega
  have h := this (upto n)
  rwa [upto_len] at h
theorem card_put_new {n : Nat} {F : FarI} {x v : Int} (h0 : 0 ≤ x) (h1 : x < n) (hn : F x = none) : cardI n (putI F x v) = cardI n F + 1 := by
  have := sum_put (cardB (putI F x v)) (cardB F) x (fun z hz => by simp [cardB, putI, hz]) (upto n) (upto_nodup n) ((mem_upto n x).2 ⟨h0, h1⟩)
  have e1 : cardB (putI F x v) x = 1 := by simp [cardB, putI]
  have e2 : cardB F x = 0 := by simp [cardB, hn]
  unfold cardI
  omega
theorem card_put_old {n : Nat} {F : FarI} {x v m : Int} (h0 : 0 ≤ x) (h1 : x < n) (hn : F x = some m) : cardI n (putI F x v) = cardI n F := by
  have := sum_put (cardB (putI F x v)) (cardB F) x (fun z hz => by simp [cardB, putI, hz]) (upto n) (upto_nodup n) ((mem_upto n x).2 ⟨h0, h1⟩)
  have e1 : cardB (putI F x v) x = 1 := by simp [cardB, putI]
  have e2 : cardB F x = 1 := by simp [cardB, hn]
  unfold cardI
  omega
theorem mass_put {n : Nat} {F : FarI} {x v : Int} (h0 : 0 ≤ x) (h1 : x < n) (hv : 0 ≤ v ∧ v < 100) (hm : ∀ m, F x = some m → v < m) : massI n (putI F x v) < massI n F := by
  have := sum_put (fun c => match putI F x v c with | none => 100 | some v => v.toNat) (fun c => match F c with | none => 100 | some v => v.toNat) x (fun z hz => by simp [putI, hz]) (upto n) (upto_nodup n) ((mem_upto n x).2 ⟨h0, h1⟩)
  have e : putI F x v x = some v := by simp [putI]
  simp only [e] at this
  unfold massI
  cases hF : F x with
  | none =>
    simp only [hF] at this
    omega
  | some m =>
    have := hm m hF
    simp only [hF] at *
    omega
/-- Values that are ways' costs and no greater than there are cells with values. -/
structure OkF (a : Int) (l : List Int) (p : Int) (F : FarI) : Prop where
  sound : SoundI a l p F
  small : ∀ c v, F c = some v → v ≤ cardI l.length F
section
variable {a : Int} {l : List Int} {p : Int}
theorem OkF.le {F : FarI} (h : OkF a l p F) (H : HexOk a l p) {c v : Int} (hc : F c = some v) : 0 ≤ v ∧ v ≤ 64 := by
  have h1 := ((h.sound c v hc).facts H).2.2
  have h2 := h.small c v hc
  have h3 := card_le l.length F
  have := H.le
  omega
theorem OkF.put {F : FarI} (h : OkF a l p F) (H : HexOk a l p) {x v : Int} (hw : Way a l p x v) (hn : v ≤ cardI l.length F + 1) (hm : ∀ m, F x = some m → v < m) : OkF a l p (putI F x v) ∧ massI l.length (putI F x v) < massI l.length F := by
  obtain ⟨⟨h0, h1⟩, _, hv⟩ := hw.facts H
  have hcl := card_le l.length F
  have hle := H.le
  refine ⟨⟨fun c u hc => ?_, fun c u hc => ?_⟩, mass_put h0 h1 ⟨hv, by omega⟩ hm⟩
  · unfold putI at hc
    split at hc
    · rename_i e
      subst e
      obtain rfl := Option.some.inj hc
      exact hw
    · exact h.sound c u hc
  · cases hF : F x with
    | none =>
      rw [card_put_new h0 h1 hF]
      unfold putI at hc
      split at hc
      · obtain rfl := Option.some.inj hc
        omega
      · have := h.small c u hc
        omega
    | some m =>
      rw [card_put_old h0 h1 hF]
      unfold putI at hc
      split at hc
      · obtain rfl := Option.some.inj hc
        have := hm m hF
        have := h.small x m hF
        omega
      · exact h.small c u hc
/-- Values only fall. -/
def Falls (F G : FarI) : Prop := ∀ c v, F c = some v → ∃ u, G c = some u ∧ u ≤ v
theorem Falls.refl (F : FarI) : Falls F F := fun _ v h => ⟨v, h, Int.le_refl _⟩
theorem Falls.trans {F G K : FarI} (h : Falls F G) (k : Falls G K) : Falls F K := fun c v hc => by
  obtain ⟨u, h1, h2⟩ := h c v hc
  obtain ⟨u', h3, h4⟩ := k c u h1
  exact ⟨u', h3, by omega⟩
theorem Falls.put {F : FarI} {x v : Int} (hm : ∀ m, F x = some m → v < m) : Falls F (putI F x v) := fun c u hc => by
  unfold putI
  by_cases e : c = x
  · subst e
    exact ⟨v, if_pos rfl, by have := hm u hc; omega⟩
  · exact ⟨u, by rw [if_neg e]; exact hc, Int.le_refl _⟩
/-- What a stretch of the search does: nothing, or values fall. -/
structure Does (a : Int) (l : List Int) (p : Int) (s t : FarI × Bool) : Prop where
  ok : OkF a l p t.1
  falls : Falls s.1 t.1
  or : (t = s) ∨ (t.2 = true ∧ massI l.length t.1 < massI l.length s.1)
theorem Does.trans {s t u : FarI × Bool} (h : Does a l p s t) (k : Does a l p t u) : Does a l p s u := by
  refine ⟨k.ok, h.falls.trans k.falls, ?_⟩
  rcases h.or with rfl | ⟨h1, h2⟩
  · exact k.or
  · rcases k.or with rfl | ⟨k1, k2⟩
    · exact Or.inr ⟨h1, h2⟩
    · exact Or.inr ⟨k1, by omega⟩
theorem nextI_does (H : HexOk a l p) (c n : Int) (hw : Way a l p c n) : ∀ (ms : List Int) (s : FarI × Bool), (∀ x ∈ ms, x ∈ nearL a c) → OkF a l p s.1 → n ≤ cardI l.length s.1 →
    Does a l p s (nextI l p n ms s) ∧ (nextI l p n ms s = s → ∀ x ∈ ms, openI l p x = true → ∃ u, s.1 x = some u ∧ u ≤ n + costI l x)
  | [], s, _, hO, _ => ⟨⟨hO, Falls.refl _, Or.inl rfl⟩, fun _ x hx => by cases hx⟩
  | x :: xs, s, hms, hO, hn => by
    have hx := hms x (by simp)
    have hcl := card_le l.length s.1
    have hle := H.le
    have hn0 := (hw.facts H).2.2
    have hc := costI_nn l x
    have hwr : wrap64 (n + costI l x) = n + costI l x := wrap_in (by omega) (by omega)
    rw [nextI]
    by_cases hcnd : openI l p x = true ∧ lessI l n x (s.1 x) = true
    · rw [if_pos hcnd, hwr]
      obtain ⟨ho, hl⟩ := hcnd
      have hm : ∀ m, s.1 x = some m → n + costI l x < m := fun m hm => by
        rw [hm] at hl
        simp only [lessI, hwr, decide_eq_true_eq] at hl
        exact hl
      obtain ⟨o1, o2⟩ := hO.put H (.step c n x hw hx ho) (by omega) hm
      have hcard : n ≤ cardI l.length (putI s.1 x (n + costI l x)) := by
        obtain ⟨⟨x0, x1⟩, _⟩ := (Way.step c n x hw hx ho).facts H
        cases hF : s.1 x with
        | none => rw [card_put_new x0 x1 hF]; omega
        | some m => rw [card_put_old x0 x1 hF]; omega
      obtain ⟨d1, _⟩ := nextI_does H c n hw xs (putI s.1 x (n + costI l x), true) (fun y hy => hms y (by simp [hy])) o1 hcard
      have d0 : Does a l p s (putI s.1 x (n + costI l x), true) := ⟨o1, Falls.put hm, Or.inr ⟨rfl, o2⟩⟩
      have d2 := d0.trans d1
      refine ⟨d2, fun e => ?_⟩
      exfalso
      rcases d1.or with e1 | ⟨_, e2⟩
      · rw [e1] at e
        have := congrArg (fun t => massI l.length t.1) e
        simp only at this
        omega
      · rw [e] at e2
        simp only at e2
        omega
    · rw [if_neg hcnd]
      obtain ⟨d1, d2⟩ := nextI_does H c n hw xs s (fun y hy => hms y (by simp [hy])) hO hn
      refine ⟨d1, fun e y hy ho => ?_⟩
      rcases List.mem_cons.1 hy with rfl | hy
      · cases hF : s.1 y with
        | none => exact absurd ⟨ho, by rw [hF]; rfl⟩ hcnd
        | some m =>
          refine ⟨m, rfl, ?_⟩
          by_cases hlt : n + costI l y < m
          · exact absurd ⟨ho, by rw [hF]; simp only [lessI, hwr]; exact decide_eq_true hlt⟩ hcnd
          · omega
      · exact d2 e y hy ho
theorem cellI_does (H : HexOk a l p) : ∀ (cs : List Int) (s : FarI × Bool), OkF a l p s.1 →
    Does a l p s (cellI a p l cs s) ∧ (cellI a p l cs s = s → ∀ c ∈ cs, ∀ v x, s.1 c = some v → x ∈ nearL a c → openI l p x = true → ∃ u, s.1 x = some u ∧ u ≤ v + costI l x)
  | [], s, hO => ⟨⟨hO, Falls.refl _, Or.inl rfl⟩, fun _ x hx => by cases hx⟩
  | c :: cs, s, hO => by
    rw [cellI]
    cases hF : s.1 c with
    | none =>
      simp only
      obtain ⟨d1, d2⟩ := cellI_does H cs s hO
      refine ⟨d1, fun e z hz v x hv => ?_⟩
      rcases List.mem_cons.1 hz with rfl | hz
      · rw [hF] at hv
        cases hv
      · exact d2 e z hz v x hv
    | some n =>
      simp only
      obtain ⟨d1, d2⟩ := nextI_does H c n (hO.sound c n hF) (nearL a c) s (fun _ h => h) hO (hO.small c n hF)
      obtain ⟨d3, d4⟩ := cellI_does H cs (nextI l p n (nearL a c) s) d1.ok
      refine ⟨d1.trans d3, fun e z hz v x hv hx ho => ?_⟩
      have e1 : nextI l p n (nearL a c) s = s := by
        rcases d1.or with e1 | ⟨_, m1⟩
        · exact e1
        · exfalso
          rcases d3.or with e3 | ⟨_, m3⟩
          · rw [e] at e3
            rw [← e3] at m1
            omega
          · rw [e] at m3
            omega
      rw [e1] at d4 e
      rcases List.mem_cons.1 hz with rfl | hz
      · rw [hF] at hv
        obtain rfl := Option.some.inj hv
        exact d2 e1 x hx ho
      · exact d4 e z hz v x hv hx ho
def StartsIn (a : Int) (l : List Int) (p : Int) (F : FarI) : Prop := ∀ c : Int, 0 ≤ c → c < l.length → lineI a p c = 0 → openI l p c = true → ∃ v, F c = some v ∧ v ≤ costI l c
theorem StartsIn.falls {F G : FarI} (h : StartsIn a l p F) (hf : Falls F G) : StartsIn a l p G := fun c h0 h1 hl ho => by
  obtain ⟨v, h2, h3⟩ := h c h0 h1 hl ho
  obtain ⟨u, h4, h5⟩ := hf c v h2
  exact ⟨u, h4, by omega⟩
theorem passes_end (H : HexOk a l p) : ∀ (m : Nat) (F : FarI), massI l.length F ≤ m → OkF a l p F → StartsIn a l p F → ∃ k G, passesI a p l k F = some G ∧ OkF a l p G ∧ ClosedI a l p G
  | m, F, hm, hO, hS => by
    obtain ⟨d1, d2⟩ := cellI_does H (upto l.length) (F, false) hO
    rcases d1.or with e | ⟨h1, h2⟩
    · refine ⟨1, F, by rw [passesI, e]; rfl, hO, hS, fun c v x hc hx ho => ?_⟩
      have hr := ((hO.sound c v hc).facts H).1
      exact d2 e c ((mem_upto _ _).2 hr) v x hc hx ho
    · cases m with
      | zero => simp only at h2; omega
      | succ m =>
        obtain ⟨k, G, h3, h4⟩ := passes_end H m (cellI a p l (upto l.length) (F, false)).1 (by simp only at h2; omega) d1.ok (hS.falls d1.falls)
        exact ⟨k + 1, G, by rw [passesI, if_pos h1]; exact h3, h4⟩
theorem startI_eq : ∀ (cs : List Int) (F : FarI) (z : Int), startI a p l cs F z = if z ∈ cs ∧ lineI a p z = 0 ∧ openI l p z = true then some (costI l z) else F z
  | [], F, z => by simp [startI]
  | c :: cs, F, z => by
    rw [startI, startI_eq cs]
    by_cases h1 : z ∈ cs ∧ lineI a p z = 0 ∧ openI l p z = true
    · rw [if_pos h1, if_pos ⟨List.mem_cons_of_mem _ h1.1, h1.2⟩]
    · rw [if_neg h1]
      by_cases e : z = c
      · subst e
        by_cases h2 : lineI a p z = 0 ∧ openI l p z = true
        · rw [if_pos h2, if_pos ⟨by simp, h2⟩]
          simp [putI]
        · rw [if_neg h2, if_neg (fun h => h2 h.2)]
      · rw [if_neg (c := z ∈ c :: cs ∧ _) (fun h => h1 ⟨by
          rcases List.mem_cons.1 h.1 with h3 | h3
          · exact absurd h3 e
          · exact h3, h.2⟩)]
        split
        · simp [putI, e]
        · rfl
theorem start_ok : OkF a l p (startI a p l (upto l.length) noneF) ∧ StartsIn a l p (startI a p l (upto l.length) noneF) := by
  have key : ∀ z v, startI a p l (upto l.length) noneF z = some v → (z ∈ upto l.length ∧ lineI a p z = 0 ∧ openI l p z = true) ∧ v = costI l z := by
    intro z v h
    rw [startI_eq] at h
    split at h
    · rename_i hc
      exact ⟨hc, (Option.some.inj h).symm⟩
    · cases h
  refine ⟨⟨fun c v h => ?_, fun c v h => ?_⟩, fun c h0 h1 hl ho => ?_⟩
  · obtain ⟨⟨h1, h2, h3⟩, rfl⟩ := key c v h
    have := (mem_upto _ _).1 h1
    exact .start c this.1 this.2 h2 h3
  · obtain ⟨⟨h1, _⟩, rfl⟩ := key c v h
    have h2 := (costI_nn l c).2
    have h3 : 1 ≤ cardI l.length (startI a p l (upto l.length) noneF) := by
      unfold cardI
      have hmem : 1 ∈ (upto l.length).map (cardB (startI a p l (upto l.length) noneF)) := List.mem_map.2 ⟨c, h1, by simp [cardB, h]⟩
      exact mem_le_sum _ _ hmem
    omega
  · exact ⟨costI l c, by rw [startI_eq, if_pos ⟨(mem_upto _ _).2 ⟨h0, h1⟩, hl, ho⟩], Int.le_refl _⟩
/-- The program's search. -/
theorem need_impl (H : HexOk a l p) : ∃ F, OkF a l p F ∧ ClosedI a l p F ∧ Ev (fun k => impl_Hex_need.f k a l p) (bestI a p F (upto l.length) (-1)) := by
  obtain ⟨s1, s2⟩ := start_ok (a := a) (l := l) (p := p)
  obtain ⟨k, F, h1, h2, h3⟩ := passes_end H _ _ (Nat.le_refl _) s1 s2
  refine ⟨F, h2, h3, Ev.of (fun k => impl_Hex_need.mono a l p k) (k := k) ?_⟩
  unfold impl_Hex_need.f
  rw [if_pos ⟨H.a1, H.a8, H.len⟩, h1, Option.bind_some, if_pos ?_]
  rw [List.all_eq_true]
  intro c _
  split
  · rfl
  · rename_i v hv
    exact decide_eq_true (h2.le H hv).1
theorem best_least (H : HexOk a l p) {F : FarI} (h : OkF a l p F) : Least (LastV a p F (upto l.length)) (bestI a p F (upto l.length) (-1)) := by
  have := bestI_least a p F (fun c v hc => (h.le H hc).1) (upto l.length) [] (-1) (Or.inl ⟨rfl, fun v ⟨c, hc, _⟩ => by cases hc⟩)
  simpa using this
end
end Go.Proofs.Ytnecgdlhkbbpgaa.B
