/-
  Plain: the reference's queue over a player's own cells reaches the last line just where the least number of cells to be got is 0. Boards of sides 1 to 8.
-/
import Derived.Test.YtnecgdlhkbbpgaaHexLaw
import Derived.Test.YtnecgdlhkbbpgaaQ15
import Derived.Test.YtnecgdlhkbbpgaaQ23
namespace Go.Proofs.Ytnecgdlhkbbpgaa.B
open Go.RowKit Go.Proofs.Ytnecgdlhkbbpgaa.Q Go.Proofs.YtnecgdlhkbbpgaaW.PrintWords Go.Proofs.YtnecgdlhkbbpgaaW.PrintLast

inductive OwnWay (a : Int) (l : List Int) (p : Int) : Int → Prop
  | start (c : Int) (h0 : 0 ≤ c) (h1 : c < l.length) (hl : lineI a p c = 0) (ho : rd l c = p) : OwnWay a l p c
  | step (c x : Int) (h : OwnWay a l p c) (hx : x ∈ nearL a c) (ho : rd l x = p) : OwnWay a l p x
section
variable {a : Int} {l : List Int} {p : Int}
theorem own_way (H : HexOk a l p) {c : Int} : OwnWay a l p c ↔ Way a l p c 0 := by
  have hp : p ≠ 0 := by rcases H.player with h | h <;> omega
  have own : ∀ z, rd l z = p → openI l p z = true ∧ costI l z = 0 := fun z hz => ⟨by simp [openI, hz], by unfold costI; rw [hz, if_neg hp]⟩
  constructor
  · intro h
    induction h with
    | start c h0 h1 hl ho =>
      have := Way.start (a := a) (l := l) (p := p) c h0 h1 hl (own c ho).1
      rwa [(own c ho).2] at this
    | step c x _ hx ho ih =>
      have := Way.step c 0 x ih hx (own x ho).1
      rwa [(own x ho).2] at this
  · intro h
    have back : ∀ z, openI l p z = true → costI l z = 0 → rd l z = p := fun z hz hc => by
      unfold costI at hc
      unfold openI at hz
      split at hc
      · omega
      · rename_i hn
        simpa [hn] using hz
    have key : ∀ c v, Way a l p c v → v = 0 → OwnWay a l p c := by
      intro c v h
      induction h with
      | start c h0 h1 hl ho => exact fun e => .start c h0 h1 hl (back c ho e)
      | step c v x h hx ho ih =>
        intro e
        have h1 := (h.facts H).2.2
        have h2 := costI_nn l x
        exact .step c x (ih (by omega)) hx (back x ho (by omega))
    exact key c 0 h rfl
theorem OwnWay.range (H : HexOk a l p) {c : Int} (h : OwnWay a l p c) : 0 ≤ c ∧ c < l.length := (((own_way H).1 h).facts H).1
/-- A queue, and which cells it has. -/
structure QI (a : Int) (l : List Int) (p : Int) (met : List Bool) (Q : List Int) : Prop where
  len : met.length = l.length
  nodup : Q.Nodup
  own : ∀ q ∈ Q, OwnWay a l p q
  met : ∀ z : Int, 0 ≤ z → z < l.length → (rdOf false met z = true ↔ z ∈ Q)
theorem rdOf_set (L : List Bool) (c z : Int) (v : Bool) (h0 : 0 ≤ c) (h1 : c < L.length) (hz : 0 ≤ z) : rdOf false (L.set c.toNat v) z = if z = c then v else rdOf false L z := by
  unfold rdOf
  by_cases e : z = c
  · subst e
    rw [if_pos rfl, List.getD_eq_getElem?_getD, List.getElem?_set_self (by omega)]
    rfl
  · rw [if_neg e, List.getD_eq_getElem?_getD, List.getElem?_set_ne (by omega), ← List.getD_eq_getElem?_getD]
theorem QI.short (H : HexOk a l p) {met : List Bool} {Q : List Int} (h : QI a l p met Q) : Q.length ≤ l.length := by
  have := nodup_le Q (upto l.length) h.nodup (fun q hq => (mem_upto _ _).2 ((h.own q hq).range H))
  rwa [upto_len] at this
theorem QI.push {met : List Bool} {Q : List Int} (H : HexOk a l p) (h : QI a l p met Q) {x : Int} (hx : OwnWay a l p x) (hn : x ∉ Q) : QI a l p (met.set x.toNat true) (Q ++ [x]) := by
  obtain ⟨x0, x1⟩ := hx.range H
  refine ⟨by rw [List.length_set]; exact h.len, ?_, fun q hq => ?_, fun z z0 z1 => ?_⟩
  · rw [List.nodup_append]
    refine ⟨h.nodup, by simp, fun y hy z hz e => ?_⟩
    obtain rfl := List.mem_singleton.1 hz
    exact hn (e ▸ hy)
  · rcases List.mem_append.1 hq with hq | hq
    · exact h.own q hq
    · obtain rfl := List.mem_singleton.1 hq
      exact hx
  · rw [rdOf_set met x z true x0 (by rw [h.len]; exact x1) z0, List.mem_append, List.mem_singleton]
    by_cases e : z = x
    · simp [e]
    · rw [if_neg e, h.met z z0 z1]
      simp [e]
theorem near_push (H : HexOk a l p) (at_ : Int) (ms : List Int) (hms : ∀ x ∈ ms, (0 ≤ x ∧ x < l.length) ∧ (rd l x = p → OwnWay a l p x)) (hm6 : ms.length ≤ 6) (ha : 0 ≤ at_ ∧ at_ ≤ 64) (d : Nat) : ∀ (i : Nat) (met : List Bool) (Q : List Int), i + d = ms.length → QI a l p met Q →
    ∃ met' ext, QI a l p met' (Q ++ ext) ∧ (∀ x ∈ ms.drop i, rd l x = p → x ∈ Q ++ ext) ∧ ∀ R, Ev (fun k => spec_l06Joins.l1 k a l p met' (Q ++ ext) (at_ + 1)) R → Ev (fun k => spec_l06Joins.l2 k a l p met Q at_ ms i) R := by
  have hle := H.le
  induction d with
  | zero =>
    intro i met Q hi hQ
    refine ⟨met, [], by simpa using hQ, (fun x hx => by rw [List.drop_eq_nil_of_le (by omega)] at hx; cases hx), fun R hE => ?_⟩
    refine evSucc (fun n => by rw [spec_l06Joins.l2]) ?_
    refine evF (by omega) ?_
    rw [wrap_in (x := at_ + 1) (by omega) (by omega)]
    simpa using hE
  | succ d ih =>
    intro i met Q hi hQ
    have hlt : i < ms.length := by omega
    rw [List.drop_eq_getElem_cons hlt]
    have hx := hms ms[i] (List.getElem_mem hlt)
    have e : rd ms (i : Int) = ms[i] := by simp [rd, List.getD_eq_getElem?_getD, hlt]
    have hiw : wrap64 ((i : Int) + 1) = ((i + 1 : Nat) : Int) := by rw [wrap_in (by omega) (by omega)]; omega
    generalize ms[i] = x at hx e
    obtain ⟨⟨x0, x1⟩, hxo⟩ := hx
    have hQs := hQ.short H
    by_cases hm : rdOf false met x = true
    · obtain ⟨met', ext, g1, g2, g3⟩ := ih (i + 1) met Q (by omega) hQ
      refine ⟨met', ext, g1, fun y hy ho => ?_, fun R hE => ?_⟩
      · rcases List.mem_cons.1 hy with rfl | hy
        · exact List.mem_append_left _ ((hQ.met y x0 x1).1 hm)
        · exact g2 y hy ho
      · refine evSucc (fun n => by rw [spec_l06Joins.l2]) ?_
        rw [e, hiw]
        exact evT (by omega) (evT (by omega) (evT x0 (evT (by rw [hQ.len]; exact x1) (evT hm (g3 R hE)))))
    · by_cases ho : rd l x = p
      · have hn : x ∉ Q := fun h => hm ((hQ.met x x0 x1).2 h)
        obtain ⟨met', ext, g1, g2, g3⟩ := ih (i + 1) (met.set x.toNat true) (Q ++ [x]) (by omega) (hQ.push H (hxo ho) hn)
        rw [List.append_assoc] at g1 g3
        refine ⟨met', [x] ++ ext, g1, fun y hy hoy => ?_, fun R hE => ?_⟩
        · rcases List.mem_cons.1 hy with rfl | hy
          · simp
          · have := g2 y hy hoy
            rwa [List.append_assoc] at this
        · refine evSucc (fun n => by rw [spec_l06Joins.l2]) ?_
          rw [e, hiw]
          exact evT (by omega) (evT (by omega) (evT x0 (evT (by rw [hQ.len]; exact x1) (evF hm (evT x1 (evT ho (evT (by omega) (g3 R hE))))))))
      · obtain ⟨met', ext, g1, g2, g3⟩ := ih (i + 1) met Q (by omega) hQ
        refine ⟨met', ext, g1, fun y hy hoy => ?_, fun R hE => ?_⟩
        · rcases List.mem_cons.1 hy with rfl | hy
          · exact absurd hoy ho
          · exact g2 y hy hoy
        · refine evSucc (fun n => by rw [spec_l06Joins.l2]) ?_
          rw [e, hiw]
          exact evT (by omega) (evT (by omega) (evT x0 (evT (by rw [hQ.len]; exact x1) (evF hm (evT x1 (evF ho (g3 R hE)))))))
/-- What has been settled: cells of the queue ahead of a place. -/
structure Settled (a : Int) (l : List Int) (p : Int) (Q : List Int) (n : Nat) : Prop where
  last : ∀ c ∈ Q.take n, lineI a p c ≠ a - 1
  near : ∀ c ∈ Q.take n, ∀ x ∈ nearL a c, rd l x = p → x ∈ Q
def Joins (a : Int) (l : List Int) (p : Int) : Prop := ∃ c, OwnWay a l p c ∧ lineI a p c = a - 1
theorem last_test (H : HexOk a l p) (met : List Bool) (Q : List Int) (at_ c : Int) (h0 : 0 ≤ at_) (h1 : at_ < Q.length) (hc : rd Q at_ = c) (R : Bool) (t : Bool) (ht : t = decide (lineI a p c = a - 1)) (hE : Ev (fun k => spec_l06Joins.j2 k a l p met Q at_ c t) R) : Ev (fun k => spec_l06Joins.l1 k a l p met Q at_) R := by
  have ha1 := H.a1
  have ha8 := H.a8
  have hle := H.le
  have haw : wrap64 (a - 1) = a - 1 := wrap_in (by omega) (by omega)
  refine evSucc (fun n => by rw [spec_l06Joins.l1]) ?_
  rw [hc, haw]
  refine evT h1 (evT h0 ?_)
  unfold lineI at ht
  rcases H.player with rfl | rfl
  · rw [if_pos rfl] at ht
    refine evT rfl (evF (by omega) ?_)
    by_cases hl : wrap64 (Int.tdiv c a) = a - 1
    · rw [decide_eq_true hl] at ht
      subst ht
      exact evT hl hE
    · rw [decide_eq_false hl] at ht
      subst ht
      exact evF hl (evF (by omega) hE)
  · rw [if_neg (by omega)] at ht
    refine evF (by omega) (evT rfl (evF (by omega) ?_))
    by_cases hl : Int.tmod c a = a - 1
    · rw [decide_eq_true hl] at ht
      subst ht
      rw [beq_iff_eq.mpr hl]
      exact hE
    · rw [decide_eq_false hl] at ht
      subst ht
      rw [beq_eq_false_iff_ne.mpr hl]
      exact hE
theorem queue_spec (H : HexOk a l p) (d : Nat) : ∀ (n : Nat) (met : List Bool) (Q : List Int), n + d = l.length + 1 → n ≤ Q.length → QI a l p met Q → Settled a l p Q n → (∀ c : Int, 0 ≤ c → c < l.length → lineI a p c = 0 → rd l c = p → c ∈ Q) →
    ∃ r, Ev (fun k => spec_l06Joins.l1 k a l p met Q n) r ∧ (r = true ↔ Joins a l p) := by
  have hle := H.le
  induction d with
  | zero =>
    intro n met Q hd hn hQ _ _
    have := hQ.short H
    omega
  | succ d ih =>
    intro n met Q hd hn hQ hS hst
    have hQs := hQ.short H
    by_cases hlt : n < Q.length
    · obtain ⟨c, hc⟩ : ∃ c, c = Q[n] := ⟨_, rfl⟩
      have hmem : c ∈ Q := by rw [hc]; exact List.getElem_mem hlt
      have hcw := hQ.own c hmem
      obtain ⟨c0, c1⟩ := hcw.range H
      have e : rd Q (n : Int) = c := by rw [hc]; simp [rd, List.getD_eq_getElem?_getD, hlt]
      have htk : Q.take (n + 1) = Q.take n ++ [c] := by rw [List.take_succ_eq_append_getElem hlt, hc]
      by_cases hl : lineI a p c = a - 1
      · refine ⟨true, last_test H met Q n c (by omega) (by omega) e true true (decide_eq_true hl).symm ?_, by simp; exact ⟨c, hcw, hl⟩⟩
        refine evSucc (fun n => by rw [spec_l06Joins.j2]) ?_
        exact evT rfl (evS _)
      · obtain ⟨_, _, n6, nr⟩ := near_facts a c H.a1 H.a8 c0 (by rw [← H.len]; exact c1)
        obtain ⟨met', ext, g1, g2, g3⟩ := near_push H n (nearL a c) (fun x hx => ⟨by rw [H.len]; exact nr x hx, fun ho => .step c x hcw hx ho⟩) n6 (by omega) (nearL a c).length 0 met Q (by omega) hQ
        have htk2 : (Q ++ ext).take (n + 1) = Q.take (n + 1) := List.take_append_of_le_length (by omega)
        obtain ⟨r, r1, r2⟩ := ih (n + 1) met' (Q ++ ext) (by omega) (by rw [List.length_append]; omega) g1 ⟨fun z hz => by
          rw [htk2, htk] at hz
          rcases List.mem_append.1 hz with hz | hz
          · exact hS.last z hz
          · obtain rfl := List.mem_singleton.1 hz
            exact hl, fun z hz x hx ho => by
          rw [htk2, htk] at hz
          rcases List.mem_append.1 hz with hz | hz
          · exact List.mem_append_left _ (hS.near z hz x hx ho)
          · obtain rfl := List.mem_singleton.1 hz
            exact g2 x (by simpa using hx) ho⟩ (fun z z0 z1 zl zo => List.mem_append_left _ (hst z z0 z1 zl zo))
        refine ⟨r, last_test H met Q n c (by omega) (by omega) e r false (decide_eq_false hl).symm ?_, r2⟩
        refine evSucc (fun n => by rw [spec_l06Joins.j2]) ?_
        refine evF (by simp) (evB (near_spec a c H.a1 H.a8 c0 (by rw [← H.len]; exact c1)) ?_)
        have := g3 r (by simpa using r1)
        simpa using this
    · refine ⟨false, ?_, ?_⟩
      · refine evSucc (fun n => by rw [spec_l06Joins.l1]) ?_
        exact evF (by omega) (evS _)
      · have hall : ∀ c, OwnWay a l p c → c ∈ Q := by
          intro c h
          induction h with
          | start c h0 h1 hl ho => exact hst c h0 h1 hl ho
          | step c x _ hx ho ih => exact hS.near c (by rw [List.take_of_length_le (by omega)]; exact ih) x hx ho
        constructor
        · intro h
          cases h
        · rintro ⟨c, hc, hl⟩
          exact absurd hl (hS.last c (by rw [List.take_of_length_le (by omega)]; exact hall c hc))
/-- The first line's cells. -/
def firstI (a p k : Int) : Int := if p = 2 then a * k else k
theorem first_iff (H : HexOk a l p) {c : Int} (h0 : 0 ≤ c) (h1 : c < l.length) : lineI a p c = 0 ↔ ∃ k, 0 ≤ k ∧ k < a ∧ c = firstI a p k := by
  have hl := H.len
  have ha : a = 1 ∨ a = 2 ∨ a = 3 ∨ a = 4 ∨ a = 5 ∨ a = 6 ∨ a = 7 ∨ a = 8 := by have := H.a1; have := H.a8; omega
  rw [start_iff H h0 h1]
  unfold firstI
  rcases H.player with rfl | rfl
  · constructor
    · rintro (⟨_, h⟩ | ⟨h, _⟩)
      · exact ⟨c, h0, h, by rw [if_neg (by omega)]⟩
      · omega
    · rintro ⟨k, k0, k1, e⟩
      rw [if_neg (by omega)] at e
      subst e
      exact Or.inl ⟨rfl, k1⟩
  · rw [Int.tmod_eq_emod_of_nonneg h0]
    constructor
    · rintro (⟨h, _⟩ | ⟨_, h⟩)
      · omega
      · refine ⟨c / a, ?_, ?_, by rw [if_pos rfl]; rcases ha with rfl | rfl | rfl | rfl | rfl | rfl | rfl | rfl <;> omega⟩ <;> rcases ha with rfl | rfl | rfl | rfl | rfl | rfl | rfl | rfl <;> omega
    · rintro ⟨k, k0, k1, e⟩
      rw [if_pos rfl] at e
      subst e
      refine Or.inr ⟨rfl, ?_⟩
      rcases ha with rfl | rfl | rfl | rfl | rfl | rfl | rfl | rfl <;> omega
theorem firstI_in (H : HexOk a l p) {k : Int} (h0 : 0 ≤ k) (h1 : k < a) : 0 ≤ firstI a p k ∧ firstI a p k < l.length ∧ wrap64 (a * k) = a * k := by
  have hl := H.len
  have ha : a = 1 ∨ a = 2 ∨ a = 3 ∨ a = 4 ∨ a = 5 ∨ a = 6 ∨ a = 7 ∨ a = 8 := by have := H.a1; have := H.a8; omega
  have hq : 0 ≤ a * k ∧ a * k < l.length := by rcases ha with rfl | rfl | rfl | rfl | rfl | rfl | rfl | rfl <;> omega
  have hle := H.le
  have hkl : k < l.length := by rcases ha with rfl | rfl | rfl | rfl | rfl | rfl | rfl | rfl <;> omega
  refine ⟨?_, ?_, wrap_in (by omega) (by omega)⟩
  · unfold firstI; split <;> omega
  · unfold firstI; split <;> omega
theorem firstI_inj (H : HexOk a l p) {j k : Int} (h : firstI a p j = firstI a p k) : j = k := by
  have ha : a = 1 ∨ a = 2 ∨ a = 3 ∨ a = 4 ∨ a = 5 ∨ a = 6 ∨ a = 7 ∨ a = 8 := by have := H.a1; have := H.a8; omega
  unfold firstI at h
  split at h
  · rcases ha with rfl | rfl | rfl | rfl | rfl | rfl | rfl | rfl <;> omega
  · exact h
theorem starts_spec (H : HexOk a l p) (d : Nat) : ∀ (k : Int) (met : List Bool) (Q : List Int), 0 ≤ k → k + d = a → QI a l p met Q → (∀ q ∈ Q, ∃ j, 0 ≤ j ∧ j < k ∧ q = firstI a p j) → (∀ j, 0 ≤ j → j < k → rd l (firstI a p j) = p → firstI a p j ∈ Q) →
    ∃ met' Q', QI a l p met' Q' ∧ (∀ c : Int, 0 ≤ c → c < l.length → lineI a p c = 0 → rd l c = p → c ∈ Q') ∧ ∀ R, Ev (fun n => spec_l06Joins.l1 n a l p met' Q' 0) R → Ev (fun n => spec_l06Joins.l0 n a l p met Q k) R := by
  have ha8 := H.a8
  have hle := H.le
  induction d with
  | zero =>
    intro k met Q h0 hd hQ h1 h2
    refine ⟨met, Q, hQ, fun c c0 c1 hl ho => ?_, fun R hE => ?_⟩
    · obtain ⟨j, j0, j1, rfl⟩ := (first_iff H c0 c1).1 hl
      exact h2 j j0 (by omega) ho
    · refine evSucc (fun n => by rw [spec_l06Joins.l0]) ?_
      exact evF (by omega) hE
  | succ d ih =>
    intro k met Q h0 hd hQ h1 h2
    obtain ⟨f0, f1, fw⟩ := firstI_in H h0 (show k < a by omega)
    have hkw : wrap64 (k + 1) = k + 1 := wrap_in (by omega) (by omega)
    have hQs := hQ.short H
    have fl := (first_iff H f0 f1).2 ⟨k, h0, by omega, rfl⟩
    by_cases ho : rd l (firstI a p k) = p
    · have hn : firstI a p k ∉ Q := fun h => by
        obtain ⟨j, j0, j1, e⟩ := h1 _ h
        have := firstI_inj H e
        omega
      obtain ⟨met', Q', g1, g2, g3⟩ := ih (k + 1) (met.set (firstI a p k).toNat true) (Q ++ [firstI a p k]) (by omega) (by omega) (hQ.push H (.start _ f0 f1 fl ho) hn) (fun q hq => by
        rcases List.mem_append.1 hq with hq | hq
        · obtain ⟨j, j0, j1, e⟩ := h1 q hq
          exact ⟨j, j0, by omega, e⟩
        · exact ⟨k, h0, by omega, List.mem_singleton.1 hq⟩) (fun j j0 j1 hj => by
        by_cases e : j = k
        · rw [e]; simp
        · exact List.mem_append_left _ (h2 j j0 (by omega) hj))
      refine ⟨met', Q', g1, g2, fun R hE => ?_⟩
      have g := g3 R hE
      refine evSucc (fun n => by rw [spec_l06Joins.l0]) ?_
      rw [fw, hkw]
      have hml := hQ.len
      refine evT (by omega) ?_
      unfold firstI at f0 f1 ho g
      by_cases hp : p = 2
      · simp only [if_pos hp] at f0 f1 ho g
        exact evT hp (evT f0 (evT f1 (evT ho (evT (by omega) (evT (by omega) g)))))
      · simp only [if_neg hp] at f0 f1 ho g
        exact evF hp (evT f0 (evT f1 (evT ho (evT (by omega) (evT (by omega) g)))))
    · obtain ⟨met', Q', g1, g2, g3⟩ := ih (k + 1) met Q (by omega) (by omega) hQ (fun q hq => by
        obtain ⟨j, j0, j1, e⟩ := h1 q hq
        exact ⟨j, j0, by omega, e⟩) (fun j j0 j1 hj => by
        by_cases e : j = k
        · exact absurd (e ▸ hj) ho
        · exact h2 j j0 (by omega) hj)
      refine ⟨met', Q', g1, g2, fun R hE => ?_⟩
      have g := g3 R hE
      refine evSucc (fun n => by rw [spec_l06Joins.l0]) ?_
      rw [fw, hkw]
      refine evT (by omega) ?_
      unfold firstI at f0 f1 ho
      by_cases hp : p = 2
      · simp only [if_pos hp] at f0 f1 ho
        exact evT hp (evT f0 (evT f1 (evF ho g)))
      · simp only [if_neg hp] at f0 f1 ho
        exact evF hp (evT f0 (evT f1 (evF ho g)))
theorem joins_spec (H : HexOk a l p) : ∃ r, Ev (fun k => spec_l06Joins.f k a l p) r ∧ (r = true ↔ Joins a l p) := by
  have hle := H.le
  have hsq : wrap64 (a * a) = l.length := by rw [H.len]; exact wrap_in (by have := H.len; omega) (by have := H.len; omega)
  unfold spec_l06Joins.f
  rw [hsq]
  have hQ : QI a l p (List.replicate l.length false) [] := ⟨by simp, List.nodup_nil, (fun q hq => by cases hq), fun z z0 z1 => by
    have : rdOf false (List.replicate l.length false) z = false := by
      unfold rdOf
      rw [List.getD_eq_getElem?_getD, List.getElem?_replicate_of_lt (by omega)]
      rfl
    rw [this]
    simp⟩
  obtain ⟨met, Q, g1, g2, g3⟩ := starts_spec H a.toNat 0 _ [] (by omega) (by have := H.a1; omega) hQ (fun q hq => by cases hq) (fun j j0 j1 => by omega)
  obtain ⟨r, r1, r2⟩ := queue_spec H (l.length + 1) 0 met Q (by omega) (by omega) g1 ⟨fun c hc => by simp at hc, fun c hc => by simp at hc⟩ g2
  refine ⟨r, evT (by omega) (evT (by omega) ?_), r2⟩
  rw [show ((l.length : Int)).toNat = l.length by omega]
  exact g3 r (by simpa using r1)
/-- The program's. -/
theorem joins_impl (H : HexOk a l p) : ∃ n, Ev (fun k => impl_Hex_need.f k a l p) n ∧ (n = 0 ↔ Joins a l p) := by
  obtain ⟨F, f1, f2, f3⟩ := need_impl H
  refine ⟨_, f3, ?_⟩
  have hb := best_least H f1
  constructor
  · intro e
    rw [e] at hb
    rcases hb with ⟨h, _⟩ | ⟨⟨c, hc, hf, hl⟩, _⟩
    · omega
    · exact ⟨c, (own_way H).2 (f1.sound c 0 hf), hl⟩
  · rintro ⟨c, hw, hl⟩
    have hr := hw.range H
    obtain ⟨u, h1, h2⟩ := f2.least ((own_way H).1 hw)
    have hu := (f1.le H h1).1
    have hV : LastV a p F (upto l.length) 0 := ⟨c, (mem_upto _ _).2 hr, by rw [h1]; congr 1; omega, hl⟩
    rcases hb with ⟨_, h⟩ | ⟨⟨z, hz, hf, _⟩, h⟩
    · exact absurd hV (h 0)
    · have := h 0 hV
      have := (f1.le H hf).1
      omega
end
/-- Who joins. -/
theorem joiner_both (a : Int) (l : List Int) (h : isHexB a l = true) : ∃ r, Ev (fun k => spec_l06Joiner.f k a l) r ∧ Ev (fun k => impl_Hex_joiner.f k a l) r := by
  have H1 : HexOk a l 1 := hexOk_of h (by omega)
  have H2 : HexOk a l 2 := hexOk_of h (by omega)
  obtain ⟨s1, a1, b1⟩ := joins_spec H1
  obtain ⟨s2, a2, b2⟩ := joins_spec H2
  obtain ⟨n1, c1, d1⟩ := joins_impl H1
  obtain ⟨n2, c2, d2⟩ := joins_impl H2
  have w2 : wrap64 (1 + 1) = 2 := by decide +kernel
  have w3 : wrap64 (2 + 1) = 3 := by decide +kernel
  have w1 : wrap64 (0 + 1) = 1 := by decide +kernel
  unfold spec_l06Joiner.f impl_Hex_joiner.f
  by_cases j1 : Joins a l 1
  · refine ⟨1, ?_, evG rfl ?_⟩
    · refine evSucc (fun n => by rw [spec_l06Joiner.l0]) ?_
      exact evT (by omega) (evB a1 (evT (b1.2 j1) (evS _)))
    · refine evSucc (fun n => by rw [impl_Hex_joiner.l0]) ?_
      refine evT (by simp) (evT (by omega) (evT (by simp) ?_))
      rw [show rd [1, 2] 0 = 1 by rfl]
      exact evB c1 (evT (d1.2 j1) (evS _))
  · have e1 : ¬ s1 = true := fun e => j1 (b1.1 e)
    have f1 : ¬ n1 = 0 := fun e => j1 (d1.1 e)
    by_cases j2 : Joins a l 2
    · refine ⟨2, ?_, evG rfl ?_⟩
      · refine evSucc (fun n => by rw [spec_l06Joiner.l0]) ?_
        refine evT (by omega) (evB a1 (evF e1 ?_))
        rw [w2]
        refine evSucc (fun n => by rw [spec_l06Joiner.l0]) ?_
        exact evT (by omega) (evB a2 (evT (b2.2 j2) (evS _)))
      · refine evSucc (fun n => by rw [impl_Hex_joiner.l0]) ?_
        refine evT (by simp) (evT (by omega) (evT (by simp) ?_))
        rw [show rd [1, 2] 0 = 1 by rfl]
        refine evB c1 (evF f1 ?_)
        rw [w1]
        refine evSucc (fun n => by rw [impl_Hex_joiner.l0]) ?_
        refine evT (by simp) (evT (by omega) (evT (by simp) ?_))
        rw [show rd [1, 2] 1 = 2 by rfl]
        exact evB c2 (evT (d2.2 j2) (evS _))
    · have e2 : ¬ s2 = true := fun e => j2 (b2.1 e)
      have f2 : ¬ n2 = 0 := fun e => j2 (d2.1 e)
      refine ⟨0, ?_, evG rfl ?_⟩
      · refine evSucc (fun n => by rw [spec_l06Joiner.l0]) ?_
        refine evT (by omega) (evB a1 (evF e1 ?_))
        rw [w2]
        refine evSucc (fun n => by rw [spec_l06Joiner.l0]) ?_
        refine evT (by omega) (evB a2 (evF e2 ?_))
        rw [w3]
        refine evSucc (fun n => by rw [spec_l06Joiner.l0]) ?_
        exact evF (by omega) (evS _)
      · refine evSucc (fun n => by rw [impl_Hex_joiner.l0]) ?_
        refine evT (by simp) (evT (by omega) (evT (by simp) ?_))
        rw [show rd [1, 2] 0 = 1 by rfl]
        refine evB c1 (evF f1 ?_)
        rw [w1]
        refine evSucc (fun n => by rw [impl_Hex_joiner.l0]) ?_
        refine evT (by simp) (evT (by omega) (evT (by simp) ?_))
        rw [show rd [1, 2] 1 = 2 by rfl]
        refine evB c2 (evF f2 ?_)
        rw [w2]
        refine evSucc (fun n => by rw [impl_Hex_joiner.l0]) ?_
        exact evF (by simp) (evS _)
end Go.Proofs.Ytnecgdlhkbbpgaa.B
