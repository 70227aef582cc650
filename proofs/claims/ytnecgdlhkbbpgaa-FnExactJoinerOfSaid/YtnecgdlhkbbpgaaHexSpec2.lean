/-
  Plain: the reference's passes over the cells of a hex board end with the ways' least costs. Boards of sides 1 to 8.
-/
import Derived.Test.YtnecgdlhkbbpgaaHexSpec
namespace Go.Proofs.Ytnecgdlhkbbpgaa.B
open Go.RowKit Go.Proofs.Ytnecgdlhkbbpgaa.Q Go.Proofs.YtnecgdlhkbbpgaaW.PrintWords Go.Proofs.YtnecgdlhkbbpgaaW.PrintLast

section
variable {a : Int} {l : List Int} {p : Int}
theorem rd_cells (H : HexOk a l p) {c : Int} (h0 : 0 ≤ c) (h1 : c < l.length) : 0 ≤ rd l c ∧ rd l c ≤ 2 := by
  have e : rd l c = l[c.toNat]'(by omega) := by simp [rd, List.getD_eq_getElem?_getD, show c.toNat < l.length by omega]
  rw [e]
  exact H.cells _ (List.getElem_mem _)
theorem open_iff (H : HexOk a l p) {c : Int} (h0 : 0 ≤ c) (h1 : c < l.length) : openI l p c = true ↔ rd l c ≠ 3 - p := by
  have := rd_cells H h0 h1
  unfold openI
  simp only [Bool.or_eq_true, decide_eq_true_eq]
  rcases H.player with rfl | rfl <;> omega
theorem start_iff (H : HexOk a l p) {c : Int} (h0 : 0 ≤ c) (h1 : c < l.length) : lineI a p c = 0 ↔ (p = 1 ∧ c < a) ∨ (p = 2 ∧ Int.tmod c a = 0) := by
  unfold lineI
  have hle := H.le
  have ha := H.a1
  have ha8 := H.a8
  rcases H.player with rfl | rfl
  · rw [if_pos rfl]
    have h2 : 0 ≤ Int.tdiv c a ∧ Int.tdiv c a ≤ c := by
      rw [Int.tdiv_eq_ediv_of_nonneg h0]
      exact ⟨Int.ediv_nonneg h0 (by omega), Int.ediv_le_self a h0⟩
    rw [wrap_in (by omega) (by omega), Int.tdiv_eq_ediv_of_nonneg h0]
    have := Int.ediv_lt_iff_lt_mul (a := c) (b := 1) (c := a) (by omega)
    have h3 := Int.ediv_nonneg h0 (show 0 ≤ a by omega)
    constructor
    · intro e
      exact Or.inl ⟨rfl, by omega⟩
    · rintro (⟨_, h⟩ | ⟨h, _⟩)
      · exact Int.ediv_eq_zero_of_lt h0 h
      · omega
  · rw [if_neg (by omega)]
    constructor
    · intro e
      exact Or.inr ⟨rfl, e⟩
    · rintro (⟨h, _⟩ | ⟨_, h⟩)
      · omega
      · exact h
theorem far64 (H : HexOk a l p) {L : List Int} (hO : OkF a l p (toF L)) : ∀ c v, toF L c = some v → v ≤ 64 := fun _ _ h => (hO.le H h).2
/-- Values bettered by none of a cell's. -/
def Sat (a : Int) (l : List Int) (p : Int) (F : FarI) (c : Int) : Prop := openI l p c = true → (lineI a p c = 0 → ∃ u, F c = some u ∧ u ≤ costI l c) ∧ ∀ x ∈ nearL a c, ∀ v, F x = some v → ∃ u, F c = some u ∧ u ≤ v + costI l c
theorem cell_spec (H : HexOk a l p) (L : List Int) (hL : L.length = l.length) (ch : Bool) (c : Int) (h0 : 0 ≤ c) (h1 : c < l.length) (hO : OkF a l p (toF L)) :
    ∃ L' ch', L'.length = l.length ∧ Does a l p (toF L, ch) (toF L', ch') ∧ ((L' = L ∧ ch' = ch ∧ Sat a l p (toF L) c) ∨ massI l.length (toF L') < massI l.length (toF L)) ∧ ∀ R, Ev (fun k => spec_NeedOf.l2 k p a L' ch' (c + 1) a l) R → Ev (fun k => spec_NeedOf.l2 k p a L ch c a l) R := by
  have hle := H.le
  have ha1 := H.a1
  have ha8 := H.a8
  have hpl := H.player
  have hsq : wrap64 (a * a) = a * a := wrap_in (by have := H.len; omega) (by have := H.len; omega)
  have hcw : wrap64 (c + 1) = c + 1 := wrap_in (by omega) (by omega)
  have hpw : wrap64 (3 - p) = 3 - p := wrap_in (by omega) (by omega)
  by_cases hop : rd l c = 3 - p
  · refine ⟨L, ch, hL, ⟨hO, Falls.refl _, Or.inl rfl⟩, Or.inl ⟨rfl, rfl, fun ho => absurd hop ((open_iff H h0 h1).1 ho)⟩, fun R hE => ?_⟩
    refine evSucc (fun k => by rw [spec_NeedOf.l2]) ?_
    rw [hsq, hpw, hcw]
    exact evT (by have := H.len; omega) (evT h0 (evT h1 (evT hop hE)))
  have ho := (open_iff H h0 h1).2 hop
  have hst : 0 ≤ costI l c ∧ costI l c ≤ 1 := costI_nn l c
  obtain ⟨ns, ni, n6, nr⟩ := near_facts a c ha1 ha8 h0 (by rw [← H.len]; exact h1)
  -- the value to begin with
  obtain ⟨b0, hb0⟩ : ∃ b0, b0 = if lineI a p c = 0 then costI l c else -1 := ⟨_, rfl⟩
  obtain ⟨b, hb⟩ : ∃ b, b = pullI (toF L) (costI l c) (nearL a c) b0 := ⟨_, rfl⟩
  have hwalk : ∀ R, Ev (fun k => spec_NeedOf.l2 k p a (behindI L ch c b).1 (behindI L ch c b).2 (c + 1) a l) R → Ev (fun k => spec_NeedOf.l2 k p a L ch c a l) R := by
    intro R hE
    have hp := pull_spec H L hL ch c (costI l c) h0 h1 hst (far64 H hO) (nearL a c) (fun x hx => by rw [H.len]; exact nr x hx) n6 R (nearL a c).length 0 b0 (by omega) (by rw [hb0]; split <;> omega) (by rw [hb0]; split <;> omega) (by simpa [hb] using hE)
    have h5 : Ev (fun k => spec_NeedOf.j5 k p a L ch c (costI l c) b0 a l) R := by
      refine evSucc (fun k => by rw [spec_NeedOf.j5]) ?_
      exact evB (near_spec a c ha1 ha8 h0 (by rw [← H.len]; exact h1)) hp
    have h4 : ∀ t : Bool, t = decide (lineI a p c = 0) → Ev (fun k => spec_NeedOf.j4 k p a L ch c (costI l c) (-1) t a l) R := by
      intro t ht
      refine evSucc (fun k => by rw [spec_NeedOf.j4]) ?_
      by_cases hl : lineI a p c = 0
      · rw [if_pos hl] at hb0
        rw [hb0] at h5
        exact evT (by rw [ht]; exact decide_eq_true hl) h5
      · rw [if_neg hl] at hb0
        rw [hb0] at h5
        exact evF (by rw [ht]; simpa using hl) h5
    have h3 : Ev (fun k => spec_NeedOf.j3 k p a L ch c (costI l c) (-1) a l) R := by
      refine evSucc (fun k => by rw [spec_NeedOf.j3]) ?_
      have hsi := start_iff H h0 h1
      rcases hpl with rfl | rfl
      · refine evT rfl ?_
        by_cases hlt : c < a
        · exact evT hlt (h4 true (by symm; exact decide_eq_true (hsi.2 (Or.inl ⟨rfl, hlt⟩))))
        · refine evF hlt (evF (by omega) (h4 false ?_))
          symm
          refine decide_eq_false (fun e => ?_)
          rcases hsi.1 e with ⟨_, h⟩ | ⟨h, _⟩ <;> omega
      · refine evF (by omega) (evT rfl (evF (by omega) (h4 _ ?_)))
        by_cases hm : Int.tmod c a = 0
        · rw [hm]
          symm
          exact decide_eq_true (hsi.2 (Or.inr ⟨rfl, hm⟩))
        · rw [beq_eq_false_iff_ne.mpr hm]
          symm
          refine decide_eq_false (fun e => ?_)
          rcases hsi.1 e with ⟨h, _⟩ | ⟨_, h⟩
          · omega
          · exact hm h
    refine evSucc (fun k => by rw [spec_NeedOf.l2]) ?_
    rw [hsq, hpw]
    refine evT (by have := H.len; omega) (evT h0 (evT h1 (evF hop ?_)))
    unfold costI at h3
    by_cases hz : rd l c = 0
    · rw [if_pos hz] at h3
      exact evT hz h3
    · rw [if_neg hz] at h3
      exact evF hz h3
  -- what it is
  have hlst : Least (fun v => (lineI a p c = 0 ∧ v = costI l c) ∨ CandV (toF L) (costI l c) ([] ++ nearL a c) v) b := by
    rw [hb]
    refine pull_least (toF L) (costI l c) hst.1 (fun z v hz => (hO.le H hz).1) (fun v => lineI a p c = 0 ∧ v = costI l c) (fun v hv => by omega) (nearL a c) [] b0 ?_
    rw [hb0]
    split
    · rename_i hl
      refine Or.inr ⟨Or.inl ⟨hl, rfl⟩, fun v hv => ?_⟩
      rcases hv with ⟨_, rfl⟩ | ⟨z, hz, _⟩
      · exact Int.le_refl _
      · cases hz
    · rename_i hl
      refine Or.inl ⟨rfl, fun v hv => ?_⟩
      rcases hv with ⟨h, _⟩ | ⟨z, hz, _⟩
      · exact hl h
      · cases hz
  rw [List.nil_append] at hlst
  have hcand : ∀ v, ((lineI a p c = 0 ∧ v = costI l c) ∨ CandV (toF L) (costI l c) (nearL a c) v) → Way a l p c v ∧ v ≤ cardI l.length (toF L) + 1 := by
    rintro v (⟨hl, rfl⟩ | ⟨x, hx, far, hf, rfl⟩)
    · exact ⟨.start c h0 h1 hl ho, by omega⟩
    · have hxr := nr x hx
      exact ⟨.step x far c (hO.sound x far hf) (near_sym ha1 ha8 h0 (by rw [← H.len]; exact h1) hx) ho, by have := hO.small x far hf; omega⟩
  by_cases hc : 0 ≤ b ∧ (rd L c < 0 ∨ b < rd L c)
  · have e : behindI L ch c b = (L.set c.toNat b, true) := if_pos hc
    rw [e] at hwalk
    have eF := toF_set L c b h0 (by omega) hc.1
    have hV : Way a l p c b ∧ b ≤ cardI l.length (toF L) + 1 := by
      rcases hlst with ⟨h, _⟩ | ⟨h, _⟩
      · omega
      · exact hcand b h
    have hm : ∀ m, toF L c = some m → b < m := fun m hm => by
      obtain ⟨_, _, e1, e2⟩ := toF_some hm
      omega
    obtain ⟨o1, o2⟩ := hO.put H hV.1 hV.2 hm
    refine ⟨L.set c.toNat b, true, by rw [List.length_set]; exact hL, ?_, Or.inr (by rw [eF]; exact o2), hwalk⟩
    rw [eF]
    exact ⟨o1, Falls.put hm, Or.inr ⟨rfl, o2⟩⟩
  · have e : behindI L ch c b = (L, ch) := if_neg hc
    rw [e] at hwalk
    refine ⟨L, ch, hL, ⟨hO, Falls.refl _, Or.inl rfl⟩, Or.inl ⟨rfl, rfl, fun _ => ?_⟩, hwalk⟩
    have hall : ∀ v, ((lineI a p c = 0 ∧ v = costI l c) ∨ CandV (toF L) (costI l c) (nearL a c) v) → ∃ u, toF L c = some u ∧ u ≤ v := by
      intro v hv
      rcases hlst with ⟨_, h⟩ | ⟨h, g⟩
      · exact absurd hv (h v)
      · have hb1 := ((hcand b h).1.facts H).2.2
        have hb2 := g v hv
        have hnot : ¬ (rd L c < 0 ∨ b < rd L c) := fun h => hc ⟨hb1, h⟩
        refine ⟨rd L c, ?_, by omega⟩
        unfold toF
        rw [if_pos ⟨h0, by omega, by omega⟩]
    exact ⟨fun hl => hall _ (Or.inl ⟨hl, rfl⟩), fun x hx v hv => hall _ (Or.inr ⟨x, hx, v, hv, rfl⟩)⟩
theorem row_spec (H : HexOk a l p) (d : Nat) : ∀ (L : List Int) (ch : Bool) (c : Int), L.length = l.length → 0 ≤ c → c + d = l.length → OkF a l p (toF L) →
    ∃ L' ch', L'.length = l.length ∧ Does a l p (toF L, ch) (toF L', ch') ∧ ((L' = L ∧ ch' = ch ∧ ∀ z, c ≤ z → z < l.length → Sat a l p (toF L) z) ∨ massI l.length (toF L') < massI l.length (toF L)) ∧ ∀ R, Ev (fun k => spec_NeedOf.l1 k p a L' ch' a l) R → Ev (fun k => spec_NeedOf.l2 k p a L ch c a l) R := by
  induction d with
  | zero =>
    intro L ch c hL h0 hd hO
    refine ⟨L, ch, hL, ⟨hO, Falls.refl _, Or.inl rfl⟩, Or.inl ⟨rfl, rfl, fun z h1 h2 => by omega⟩, fun R hE => ?_⟩
    have hsq : wrap64 (a * a) = a * a := wrap_in (by have := H.len; omega) (by have := H.len; have := H.le; omega)
    refine evSucc (fun k => by rw [spec_NeedOf.l2]) ?_
    rw [hsq]
    exact evF (by have := H.len; omega) hE
  | succ d ih =>
    intro L ch c hL h0 hd hO
    obtain ⟨L1, ch1, e1, d1, o1, w1⟩ := cell_spec H L hL ch c h0 (by omega) hO
    obtain ⟨L2, ch2, e2, d2, o2, w2⟩ := ih L1 ch1 (c + 1) e1 (by omega) (by omega) d1.ok
    refine ⟨L2, ch2, e2, d1.trans d2, ?_, fun R hE => w1 R (w2 R hE)⟩
    rcases o1 with ⟨rfl, rfl, s1⟩ | m1
    · rcases o2 with ⟨rfl, rfl, s2⟩ | m2
      · refine Or.inl ⟨rfl, rfl, fun z h1 h2 => ?_⟩
        by_cases e : z = c
        · rw [e]; exact s1
        · exact s2 z (by omega) h2
      · exact Or.inr m2
    · rcases o2 with ⟨rfl, rfl, s2⟩ | m2
      · exact Or.inr m1
      · exact Or.inr (by omega)
theorem passes_spec (H : HexOk a l p) (m : Nat) : ∀ (L : List Int), L.length = l.length → OkF a l p (toF L) → massI l.length (toF L) ≤ m →
    ∃ L', L'.length = l.length ∧ OkF a l p (toF L') ∧ ClosedI a l p (toF L') ∧ ∀ R, Ev (fun k => spec_NeedOf.l4 k p a L' (-1) 0) R → Ev (fun k => spec_NeedOf.l1 k p a L true a l) R := by
  induction m with
  | zero =>
    intro L hL hO hm
    obtain ⟨L1, ch1, e1, d1, o1, w1⟩ := row_spec H l.length L false 0 hL (by omega) (by omega) hO
    rcases o1 with ⟨rfl, rfl, s1⟩ | m1
    · refine ⟨L1, hL, hO, ?_, fun R hE => ?_⟩
      · exact ⟨fun c h0 h1 hl ho => (s1 c h0 h1 ho).1 hl, fun c v x hc hx ho => by
          have hcr := ((hO.sound c v hc).facts H).1
          have hxr := near_in H hcr.1 hcr.2 hx
          exact (s1 x hxr.1 hxr.2 ho).2 c (near_sym H.a1 H.a8 hcr.1 (by rw [← H.len]; exact hcr.2) hx) v hc⟩
      · refine evSucc (fun k => by rw [spec_NeedOf.l1]) ?_
        refine evT rfl (w1 R ?_)
        refine evSucc (fun k => by rw [spec_NeedOf.l1]) ?_
        exact evF (by simp) hE
    · omega
  | succ m ih =>
    intro L hL hO hm
    obtain ⟨L1, ch1, e1, d1, o1, w1⟩ := row_spec H l.length L false 0 hL (by omega) (by omega) hO
    rcases o1 with ⟨rfl, rfl, s1⟩ | m1
    · refine ⟨L1, hL, hO, ?_, fun R hE => ?_⟩
      · exact ⟨fun c h0 h1 hl ho => (s1 c h0 h1 ho).1 hl, fun c v x hc hx ho => by
          have hcr := ((hO.sound c v hc).facts H).1
          have hxr := near_in H hcr.1 hcr.2 hx
          exact (s1 x hxr.1 hxr.2 ho).2 c (near_sym H.a1 H.a8 hcr.1 (by rw [← H.len]; exact hcr.2) hx) v hc⟩
      · refine evSucc (fun k => by rw [spec_NeedOf.l1]) ?_
        refine evT rfl (w1 R ?_)
        refine evSucc (fun k => by rw [spec_NeedOf.l1]) ?_
        exact evF (by simp) hE
    · have hch : ch1 = true := by
        rcases d1.or with e | ⟨h, _⟩
        · have := congrArg Prod.fst e
          simp only at this
          rw [this] at m1
          omega
        · exact h
      obtain ⟨L2, g1, g2, g3, g4⟩ := ih L1 e1 d1.ok (by omega)
      refine ⟨L2, g1, g2, g3, fun R hE => ?_⟩
      refine evSucc (fun k => by rw [spec_NeedOf.l1]) ?_
      refine evT rfl (w1 R ?_)
      rw [hch]
      exact g4 R hE
/-- The last line's cells. -/
def lastI (a p k : Int) : Int := if p = 2 then a * k + a - 1 else a * (a - 1) + k
theorem last_iff (H : HexOk a l p) {c : Int} (h0 : 0 ≤ c) (h1 : c < l.length) : lineI a p c = a - 1 ↔ ∃ k, 0 ≤ k ∧ k < a ∧ c = lastI a p k := by
  have hle := H.le
  have hl := H.len
  have ha : a = 1 ∨ a = 2 ∨ a = 3 ∨ a = 4 ∨ a = 5 ∨ a = 6 ∨ a = 7 ∨ a = 8 := by have := H.a1; have := H.a8; omega
  unfold lineI lastI
  rcases H.player with rfl | rfl
  · rw [if_pos rfl]
    have h2 : 0 ≤ Int.tdiv c a ∧ Int.tdiv c a ≤ c := by
      rw [Int.tdiv_eq_ediv_of_nonneg h0]
      exact ⟨Int.ediv_nonneg h0 (by have := H.a1; omega), Int.ediv_le_self a h0⟩
    rw [wrap_in (by omega) (by omega), Int.tdiv_eq_ediv_of_nonneg h0]
    constructor
    · intro e
      refine ⟨c - a * (a - 1), ?_, ?_, by rw [if_neg (by omega)]; omega⟩ <;> rcases ha with rfl | rfl | rfl | rfl | rfl | rfl | rfl | rfl <;> omega
    · rintro ⟨k, k0, k1, rfl⟩
      rw [if_neg (by omega)] at *
      rcases ha with rfl | rfl | rfl | rfl | rfl | rfl | rfl | rfl <;> omega
  · rw [if_neg (by omega), Int.tmod_eq_emod_of_nonneg h0]
    constructor
    · intro e
      refine ⟨c / a, ?_, ?_, by rw [if_pos rfl]; rcases ha with rfl | rfl | rfl | rfl | rfl | rfl | rfl | rfl <;> omega⟩ <;> rcases ha with rfl | rfl | rfl | rfl | rfl | rfl | rfl | rfl <;> omega
    · rintro ⟨k, k0, k1, rfl⟩
      rw [if_pos rfl] at *
      rcases ha with rfl | rfl | rfl | rfl | rfl | rfl | rfl | rfl <;> omega
theorem last_in (H : HexOk a l p) {k : Int} (h0 : 0 ≤ k) (h1 : k < a) : 0 ≤ lastI a p k ∧ lastI a p k < l.length := by
  have hl := H.len
  have ha : a = 1 ∨ a = 2 ∨ a = 3 ∨ a = 4 ∨ a = 5 ∨ a = 6 ∨ a = 7 ∨ a = 8 := by have := H.a1; have := H.a8; omega
  unfold lastI
  split <;> rcases ha with rfl | rfl | rfl | rfl | rfl | rfl | rfl | rfl <;> omega
def codeI (b : Int) : Int × Int := if b < 0 then (0, 4) else (b, 0)
theorem end_spec (H : HexOk a l p) (L : List Int) (hL : L.length = l.length) (hO : OkF a l p (toF L)) (d : Nat) : ∀ (k b : Int), 0 ≤ k → k + d = a → b ≤ 64 → Least (fun v => ∃ j, 0 ≤ j ∧ j < k ∧ toF L (lastI a p j) = some v) b →
    ∃ r, Least (LastV a p (toF L) (upto l.length)) r ∧ Ev (fun n => spec_NeedOf.l4 n p a L b k) (codeI r) := by
  have hle := H.le
  have hl := H.len
  have ha1 := H.a1
  have ha8 := H.a8
  induction d with
  | zero =>
    intro k b h0 hd hb hB
    refine ⟨b, Least.same hB (fun v => ?_), ?_⟩
    · constructor
      · rintro ⟨c, hc, hf, hln⟩
        have hr := (mem_upto _ _).1 hc
        obtain ⟨j, j0, j1, rfl⟩ := (last_iff H hr.1 hr.2).1 hln
        exact ⟨j, j0, by omega, hf⟩
      · rintro ⟨j, j0, j1, hf⟩
        have hr := last_in H j0 (show j < a by omega)
        exact ⟨_, (mem_upto _ _).2 hr, hf, (last_iff H hr.1 hr.2).2 ⟨j, j0, by omega, rfl⟩⟩
    · refine evSucc (fun n => by rw [spec_NeedOf.l4]) ?_
      refine evF (by omega) ?_
      by_cases hb0 : b < 0
      · have e : codeI b = (0, 4) := if_pos hb0
        rw [e]
        exact evT hb0 (evS _)
      · have e : codeI b = (b, 0) := if_neg hb0
        rw [e]
        exact evF hb0 (evS _)
  | succ d ih =>
    intro k b h0 hd hb hB
    have hkw : wrap64 (k + 1) = k + 1 := wrap_in (by omega) (by omega)
    have hr := last_in H h0 (show k < a by omega)
    have next : ∀ b' : Int, b' ≤ 64 → Least (fun v => ∃ j, 0 ≤ j ∧ j < k + 1 ∧ toF L (lastI a p j) = some v) b' → ∃ r, Least (LastV a p (toF L) (upto l.length)) r ∧ Ev (fun n => spec_NeedOf.l4 n p a L b' (wrap64 (k + 1))) (codeI r) := fun b' h1 h2 => by
      rw [hkw]
      exact ih (k + 1) b' (by omega) (by omega) h1 h2
    -- the step, whatever the cell's number is written like
    have step : ∀ z : Int, z = lastI a p k → ∃ r, Least (LastV a p (toF L) (upto l.length)) r ∧ Ev (fun n => if 0 ≤ z then (if z < (L.length : Int) then (if (rd L z) ≥ 0 then (if b < 0 then (spec_NeedOf.l4 n p a L (rd L z) (wrap64 (k + 1))) else (if (rd L z) < b then (spec_NeedOf.l4 n p a L (rd L z) (wrap64 (k + 1))) else (spec_NeedOf.l4 n p a L b (wrap64 (k + 1))))) else (spec_NeedOf.l4 n p a L b (wrap64 (k + 1)))) else none) else none) (codeI r) := by
      intro z hz
      rw [← hz] at hr
      cases hf : toF L z with
      | none =>
        have hneg := toF_none hf hr.1 (by omega)
        obtain ⟨r, r1, r2⟩ := next b hb (Least.same hB (fun v => ⟨fun ⟨j, j0, j1, hj⟩ => by
          by_cases e : j = k
          · rw [e, ← hz, hf] at hj
            cases hj
          · exact ⟨j, j0, by omega, hj⟩, fun ⟨j, j0, j1, hj⟩ => ⟨j, j0, by omega, hj⟩⟩))
        exact ⟨r, r1, evT hr.1 (evT (by omega) (evF (by omega) r2))⟩
      | some far =>
        obtain ⟨_, _, g1, g2⟩ := toF_some hf
        have g3 := (hO.le H hf).2
        have hB2 : Least (fun v => ∃ j, 0 ≤ j ∧ j < k + 1 ∧ toF L (lastI a p j) = some v) (if b < 0 ∨ far < b then far else b) := by
          refine Least.more hB far (fun v ⟨j, _, _, hj⟩ => (hO.le H hj).1) (fun v => ⟨fun ⟨j, j0, j1, hj⟩ => ?_, fun h => ?_⟩)
          · by_cases e : j = k
            · rw [e, ← hz, hf] at hj
              exact Or.inr (Option.some.inj hj).symm
            · exact Or.inl ⟨j, j0, by omega, hj⟩
          · rcases h with ⟨j, j0, j1, hj⟩ | rfl
            · exact ⟨j, j0, by omega, hj⟩
            · exact ⟨k, h0, by omega, by rw [← hz]; exact hf⟩
        by_cases hb0 : b < 0
        · rw [if_pos (Or.inl hb0)] at hB2
          obtain ⟨r, r1, r2⟩ := next far g3 hB2
          exact ⟨r, r1, evT hr.1 (evT (by omega) (evT (by omega) (evT hb0 (by rw [g1]; exact r2))))⟩
        · by_cases hb2 : far < b
          · rw [if_pos (Or.inr hb2)] at hB2
            obtain ⟨r, r1, r2⟩ := next far g3 hB2
            exact ⟨r, r1, evT hr.1 (evT (by omega) (evT (by omega) (evF hb0 (evT (by omega) (by rw [g1]; exact r2)))))⟩
          · rw [if_neg (fun h => h.elim hb0 hb2)] at hB2
            obtain ⟨r, r1, r2⟩ := next b hb hB2
            exact ⟨r, r1, evT hr.1 (evT (by omega) (evT (by omega) (evF hb0 (evF (by omega) r2))))⟩
    have ha : a = 1 ∨ a = 2 ∨ a = 3 ∨ a = 4 ∨ a = 5 ∨ a = 6 ∨ a = 7 ∨ a = 8 := by omega
    rcases H.player with rfl | rfl
    · obtain ⟨r, r1, r2⟩ := step (wrap64 ((wrap64 (a * (wrap64 (a - 1)))) + k)) (by
        unfold lastI
        have hq : 0 ≤ a * (a - 1) ∧ a * (a - 1) ≤ 64 := by rcases ha with rfl | rfl | rfl | rfl | rfl | rfl | rfl | rfl <;> omega
        rw [if_neg (by omega), wrap_in (x := a - 1) (by omega) (by omega), wrap_in (x := a * (a - 1)) (by omega) (by omega), wrap_in (by omega) (by omega)])
      refine ⟨r, r1, evSucc (fun n => by rw [spec_NeedOf.l4]) ?_⟩
      exact evT (by omega) (evF (by omega) r2)
    · obtain ⟨r, r1, r2⟩ := step (wrap64 ((wrap64 ((wrap64 (a * k)) + a)) - 1)) (by
        unfold lastI
        have hq : 0 ≤ a * k ∧ a * k ≤ 64 := by rcases ha with rfl | rfl | rfl | rfl | rfl | rfl | rfl | rfl <;> omega
        rw [if_pos rfl, wrap_in (x := a * k) (by omega) (by omega), wrap_in (x := a * k + a) (by omega) (by omega), wrap_in (by omega) (by omega)])
      refine ⟨r, r1, evSucc (fun n => by rw [spec_NeedOf.l4]) ?_⟩
      exact evT (by omega) (evT rfl r2)
theorem fill_spec (H : HexOk a l p) (d : Nat) : ∀ (i : Nat) (R : Int × Int), i + d = l.length → Ev (fun k => spec_NeedOf.l1 k p a (List.replicate l.length (-1)) true a l) R → Ev (fun k => spec_NeedOf.l0 k p a (List.replicate i (-1)) i a l) R := by
  have hle := H.le
  induction d with
  | zero =>
    intro i R hi hE
    refine evSucc (fun n => by rw [spec_NeedOf.l0]) ?_
    refine evF (by omega) ?_
    rw [show i = l.length by omega]
    exact hE
  | succ d ih =>
    intro i R hi hE
    refine evSucc (fun n => by rw [spec_NeedOf.l0]) ?_
    refine evT (by omega) (evT (by simp; omega) ?_)
    rw [wrap_in (x := (i : Int) + 1) (by omega) (by omega), show (i : Int) + 1 = ((i + 1 : Nat) : Int) by omega, ← List.replicate_succ']
    exact ih (i + 1) R (by omega) hE
/-- The reference's search. -/
theorem need_spec (H : HexOk a l p) : ∃ F r, OkF a l p F ∧ ClosedI a l p F ∧ Least (LastV a p F (upto l.length)) r ∧ Ev (fun k => spec_NeedOf.l0 k p a [] 0 a l) (codeI r) := by
  have hF : toF (List.replicate l.length (-1)) = noneF := by
    funext c
    unfold toF noneF
    rw [if_neg]
    rintro ⟨h0, h1, h2⟩
    rw [List.length_replicate] at h1
    have : rd (List.replicate l.length (-1)) c = -1 := by
      unfold rd
      rw [List.getD_eq_getElem?_getD, List.getElem?_replicate_of_lt (by omega)]
      rfl
    omega
  have hO : OkF a l p (toF (List.replicate l.length (-1))) := by
    rw [hF]
    exact ⟨(fun c v h => by cases h), (fun c v h => by cases h)⟩
  obtain ⟨L, h1, h2, h3, h4⟩ := passes_spec H _ (List.replicate l.length (-1)) (by simp) hO (Nat.le_refl _)
  obtain ⟨r, r1, r2⟩ := end_spec H L h1 h2 a.toNat 0 (-1) (by omega) (by have := H.a1; omega) (by omega) (Or.inl ⟨rfl, fun v ⟨j, j0, j1, _⟩ => by omega⟩)
  refine ⟨toF L, r, h2, h3, r1, ?_⟩
  have := fill_spec H l.length 0 (codeI r) (by omega) (h4 _ r2)
  simpa using this
/-- Both come to the same. -/
theorem need_both (H : HexOk a l p) : ∃ r, (r = -1 ∨ 0 ≤ r) ∧ Ev (fun k => impl_Hex_need.f k a l p) r ∧ Ev (fun k => spec_NeedOf.l0 k p a [] 0 a l) (codeI r) := by
  obtain ⟨F, f1, f2, f3⟩ := need_impl H
  obtain ⟨G, r, g1, g2, g3, g4⟩ := need_spec H
  obtain rfl := far_eq f1.sound f2 g1.sound g2
  have e := Least.eq (fun v => Iff.rfl) (best_least H f1) g3
  rw [e] at f3
  refine ⟨r, ?_, f3, g4⟩
  rcases g3 with ⟨h, _⟩ | ⟨⟨c, _, h, _⟩, _⟩
  · exact Or.inl h
  · exact Or.inr (f1.le H h).1
end
end Go.Proofs.Ytnecgdlhkbbpgaa.B
