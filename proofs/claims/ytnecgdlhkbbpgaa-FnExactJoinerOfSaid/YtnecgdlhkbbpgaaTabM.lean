/-
  A map that the call itself has made, told whole: which keys it bears, and what stands at each. Keys of a kind that can be read; at most as many as a list holds.
-/
import Derived.Maps.OwnSet
import Derived.Maps.OwnOps
import Derived.Below
import Derived.Maps.Range
namespace Go.Proofs.Ytnecgdlhkbbpgaa.Q
open Go.RowKit
open Go.Maps (Keyed)

/-- A reader that takes whatever value stands in an entry. -/
def allV (_ : Value) : Option (DataW Unit × List MemPlace) := some (.nil, [])
/-- Block b is a map that bears, at the keys mkK a, the elements mkV c, just where f a = some c. -/
def TabM (P : Program) (k : TypeId) {α β : Type} (mkK : α → Value) (mkV : β → Value) (f : α → Option β) (w : World) (b : Nat) : Prop :=
  ∃ es clock, w.heap[b]? = some (.map es clock) ∧ WideElems.Fit P k allV es clock ∧ (∀ x ∈ es.toList, ∃ a c, x.key = mkK a ∧ x.val = mkV c ∧ f a = some c) ∧ ∀ a c, f a = some c → ∃ x ∈ es.toList, x.key = mkK a ∧ x.val = mkV c
section
variable {P : Program} {k : TypeId} {α β : Type} {mkK : α → Value} {mkV : β → Value} {f : α → Option β} {w : World} {b : Nat}
theorem TabM.made (w : World) (P : Program) (k : TypeId) (mkK : α → Value) (mkV : β → Value) : TabM P k mkK mkV (fun _ => none) (w.alloc (.map #[] 0)) w.heap.size :=
  ⟨#[], 0, (MapKept.heap_alloc w _).1, ⟨by simp, MapKept.stamped_empty 0, by simp⟩, by simp, fun a c h => by cases h⟩
theorem TabM.lt (h : TabM P k mkK mkV f w b) : b < w.heap.size := by
  obtain ⟨es, clock, hb, _⟩ := h
  exact (Array.getElem?_eq_some_iff.1 hb).1
theorem TabM.at {w' : World} (h : TabM P k mkK mkV f w b) (e : w'.heap[b]? = w.heap[b]?) : TabM P k mkK mkV f w' b := by
  obtain ⟨es, clock, hb, r⟩ := h
  exact ⟨es, clock, e.trans hb, r⟩
theorem TabM.kept {w' : World} {row : Option Nat} (h : TabM P k mkK mkV f w b) (hg : w.grownBy w' row) (hne : some b ≠ row) : TabM P k mkK mkV f w' b := h.at (hg.block b h.lt hne)
theorem TabM.below {w' : World} (h : TabM P k mkK mkV f w b) (hb : Below w.heap.size w w') : TabM P k mkK mkV f w' b := h.at (hb.block b h.lt)
theorem TabM.same (h : TabM P k mkK mkV f w b) {g : α → Option β} (e : ∀ a, g a = f a) : TabM P k mkK mkV g w b := by
  have : g = f := funext e
  rw [this]
  exact h
theorem TabM.ne {i : Nat} {cs : Array Value} {t : TypeId} {q : Nat × Nat} (h : TabM P k mkK mkV f w b) (hi : w.heap[i]? = some (.cells cs t q)) : some i ≠ some b := by
  obtain ⟨es, clock, hb, _⟩ := h
  intro e
  obtain rfl := Option.some.inj e
  rw [hb] at hi
  cases hi
/-- 'm[k]'. -/
theorem TabM.look {t e : TypeId} (h : TabM P k mkK mkV f w b) (hinj : ∀ a a', mkK a = mkK a' → a = a') (K : Keyed P k) (ht : P.underlying t = some (.map k e)) {z : Value} (hz : (zeroValue e).run P w = .ok z w) (a : α) (hkey : ∃ kl, keyOf P k (mkK a) = some kl) :
    (Instr.lookup t (.map (some b)) (mkK a) false).run P w = .ok (match f a with | none => z | some c => mkV c) w := by
  obtain ⟨es, clock, hb, F, h1, h2⟩ := h
  obtain ⟨kl, hkl⟩ := hkey
  rcases Maps.fit_look false K ht hz hb F hkl with ⟨hrun, hno, _⟩ | ⟨e0, y, he, hk, hrun, _⟩
  · cases hf : f a with
    | none => exact hrun
    | some c =>
      obtain ⟨x, hx, hxk, _⟩ := h2 a c hf
      exact absurd hxk (hno x hx)
  · obtain ⟨a', c, e1, e2, e3⟩ := h1 e0 he
    obtain rfl := hinj a' a (e1.symm.trans hk)
    rw [e3]
    simpa [e2] using hrun
/-- Numbers below N, no two alike, are at most N. -/
theorem pigeonM : ∀ (N : Nat) (l : List Nat), l.Nodup → (∀ x ∈ l, x < N) → l.length ≤ N
  | 0, l, _, h => by
    cases l with
    | nil => simp
    | cons x l => exact absurd (h x List.mem_cons_self) (by omega)
  | N + 1, l, hd, h => by
    by_cases hN : N ∈ l
    · have := pigeonM N (l.erase N) (hd.erase N) (fun x hx => by
        have hx' := (hd.mem_erase_iff).1 hx
        have := h x hx'.2
        omega)
      rw [List.length_erase_of_mem hN] at this
      omega
    · have := pigeonM N l hd (fun x hx => by
        have := h x hx
        have : x ≠ N := fun e => hN (e ▸ hx)
        omega)
      omega
/-- A list without repetition within another is no longer. -/
theorem nodup_le {γ : Type} [DecidableEq γ] (l L : List γ) (hd : l.Nodup) (h : ∀ x ∈ l, x ∈ L) : l.length ≤ L.length := by
  have := pigeonM L.length (l.map fun x => L.idxOf x) (by
    unfold List.Nodup
    rw [List.pairwise_map]
    refine hd.imp_of_mem ?_
    intro a c ha hc hne e
    have h1 := List.idxOf_lt_length_of_mem (h a ha)
    have h2 := List.idxOf_lt_length_of_mem (h c hc)
    have g1 : L[L.idxOf a] = a := List.getElem_idxOf h1
    have g2 : L[L.idxOf c] = c := List.getElem_idxOf h2
    apply hne
    rw [← g1, ← g2]
    simp only [e]) (fun y hy => by
    obtain ⟨x, hx, rfl⟩ := List.mem_map.1 hy
    exact List.idxOf_lt_length_of_mem (h x hx))
  simpa using this
/-- The keys that it bears, without repetition. -/
theorem TabM.keys {es : Array MapEntry} {clock : Nat} (F : WideElems.Fit P k allV es clock) (h1 : ∀ x ∈ es.toList, ∃ a c, x.key = mkK a ∧ x.val = mkV c ∧ f a = some c) :
    ∃ ks : List α, ks.length = es.size ∧ ks.Nodup ∧ (∀ a ∈ ks, ∃ c, f a = some c) ∧ ∀ x ∈ es.toList, ∃ a ∈ ks, x.key = mkK a := by
  have key : ∀ l : List MapEntry, (∀ x ∈ l, ∃ a c, x.key = mkK a ∧ x.val = mkV c ∧ f a = some c) → l.Pairwise (fun x y => x.key ≠ y.key) →
      ∃ ks : List α, ks.length = l.length ∧ ks.Nodup ∧ (∀ a ∈ ks, (∃ c, f a = some c) ∧ ∃ x ∈ l, x.key = mkK a) ∧ ∀ x ∈ l, ∃ a ∈ ks, x.key = mkK a := by
    intro l
    induction l with
    | nil => intro _ _; exact ⟨[], rfl, List.nodup_nil, (fun a h => by cases h), fun x h => by cases h⟩
    | cons x l ih =>
      intro hx hp
      obtain ⟨ks, g1, g2, g3, g4⟩ := ih (fun y hy => hx y (by simp [hy])) (List.pairwise_cons.1 hp).2
      obtain ⟨a, c, e1, _, e3⟩ := hx x (by simp)
      refine ⟨a :: ks, by simp [g1], List.nodup_cons.2 ⟨fun ha => ?_, g2⟩, fun a' ha' => ?_, fun y hy => ?_⟩
      · obtain ⟨y, hy, hyk⟩ := (g3 a ha).2
        exact (List.pairwise_cons.1 hp).1 y hy (e1.trans hyk.symm)
      · rcases List.mem_cons.1 ha' with rfl | ha'
        · exact ⟨⟨c, e3⟩, x, by simp, e1⟩
        · obtain ⟨q1, y, hy, q2⟩ := g3 a' ha'
          exact ⟨q1, y, by simp [hy], q2⟩
      · rcases List.mem_cons.1 hy with rfl | hy
        · exact ⟨a, by simp, e1⟩
        · obtain ⟨a', ha', q⟩ := g4 y hy
          exact ⟨a', by simp [ha'], q⟩
  obtain ⟨ks, g1, g2, g3, g4⟩ := key es.toList h1 ((MapKept.stamped_iff es clock).1 F.stamped).2.2
  exact ⟨ks, by simpa using g1, g2, fun a ha => (g3 a ha).1, g4⟩
/-- 'm[k] = v'. -/
theorem TabM.store [DecidableEq α] {t e : TypeId} (h : TabM P k mkK mkV f w b) (K : Keyed P k) (ht : P.underlying t = some (.map k e)) (hinj : ∀ a a', mkK a = mkK a' → a = a') (L : List α) (hL : L.length < maxLen) (hfew : ∀ a c, f a = some c → a ∈ L) (a : α) (c : β) (hkey : ∃ kl, keyOf P k (mkK a) = some kl) :
    ∃ w', (Instr.mapUpdate t (.map (some b)) (mkK a) (mkV c)).run P w = .ok () w' ∧ TabM P k mkK mkV (fun x => if x = a then some c else f x) w' b ∧ w.grownBy w' (some b) := by
  obtain ⟨es, clock, hb, F, h1, h2⟩ := h
  obtain ⟨kl, hkl⟩ := hkey
  have hroom : es.size < maxLen := by
    obtain ⟨ks, g1, g2, g3, _⟩ := TabM.keys F h1
    have := nodup_le ks L g2 (fun x hx => by obtain ⟨c', hc'⟩ := g3 x hx; exact hfew x c' hc')
    omega
  obtain ⟨es', clock', hrun, F', hput, _, _, hall⟩ := Maps.fit_store (R' := allV) K ht hb F hroom (fun _ _ _ _ hz => hz) hkl (val := mkV c) (yv := (.nil, [])) rfl
  refine ⟨_, hrun, ⟨es', clock', ChangeMaps.heap_setBlock_same hb _, F', fun x hx => ?_, fun a' c' hf => ?_⟩, ⟨rfl, rfl, rfl, by simp [ChangeMaps.setBlock], fun i _ hi => ChangeMaps.heap_setBlock_other hb _ (fun e => hi (by rw [e]))⟩⟩
  · rcases hall x hx with ⟨hx1, hx2⟩ | ⟨hx1, hx2⟩
    · obtain ⟨a', c', e1, e2, e3⟩ := h1 x hx1
      refine ⟨a', c', e1, e2, ?_⟩
      show (if a' = a then some c else f a') = some c'
      rw [if_neg (fun e => hx2 (by rw [e1, e])), e3]
    · exact ⟨a, c, hx1, hx2, if_pos rfl⟩
  · have hf : (if a' = a then some c else f a') = some c' := hf
    have hkeyof : ∀ (es : Array MapEntry) (clock : Nat), WideElems.Fit P k allV es clock → ∀ x ∈ es.toList, keyOf P k x.key = some (WideElems.rg P k allV x).1 := fun es clock F x hx => by
      obtain ⟨y, hy⟩ := F.reads x hx
      rw [WideElems.rg_of hy]
      exact WideElems.rd_key hy
    have hmem : ∀ p, p ∈ ChangeMaps.putKey kl (.nil : DataW Unit) ((es.toList.map (WideElems.rg P k allV)).foldr DataW.insert []) → ∃ x ∈ es'.toList, WideElems.rg P k allV x = p := fun p hp => by
      rw [← hput] at hp
      obtain ⟨x, hx, e⟩ := List.mem_map.1 ((WideShapes.sorted_perm _).mem_iff.1 hp)
      exact ⟨x, hx, e⟩
    by_cases e : a' = a
    · subst e
      rw [if_pos rfl] at hf
      obtain rfl := Option.some.inj hf
      obtain ⟨x, hx, hxk⟩ := hmem (kl, .nil) (ChangeMaps.mem_insert_iff.2 (Or.inl rfl))
      have e2 : x.key = mkK a' := K.inj (by rw [hkeyof es' clock' F' x hx, hxk]) hkl
      rcases hall x hx with ⟨_, hx2⟩ | ⟨hx1, hx2⟩
      · exact absurd e2 hx2
      · exact ⟨x, hx, hx1, hx2⟩
    · rw [if_neg e] at hf
      obtain ⟨x, hx, e1, e2⟩ := h2 a' c' hf
      have hne : (WideElems.rg P k allV x).1 ≠ kl := fun hq => e (hinj a' a (by
        rw [← e1]
        exact K.inj (by rw [hkeyof es clock F x hx, hq]) hkl))
      obtain ⟨y, hy, hyk⟩ := hmem (WideElems.rg P k allV x) (ChangeMaps.mem_insert_iff.2 (Or.inr (List.mem_filter.2 ⟨(WideShapes.sorted_perm _).mem_iff.2 (List.mem_map.2 ⟨x, hx, rfl⟩), (Maps.notKey_iff (K.key hkl)).2 hne⟩)))
      have e3 : y.key = x.key := K.inj (by rw [hkeyof es' clock' F' y hy, hyk]) (hkeyof es clock F x hx)
      rcases hall y hy with ⟨hy1, hy2⟩ | ⟨hy1, _⟩
      · obtain rfl := entry_eq_of_key ((MapKept.stamped_iff es clock).1 F.stamped).2.2 hy1 hx e3
        exact ⟨y, hy, e1, e2⟩
      · exact absurd (hinj a' a (by rw [← e1, ← e3, hy1])) e
/-- 'len(m)', where the keys are those of a list without repetition. -/
theorem TabM.len [DecidableEq α] {t e : TypeId} (h : TabM P k mkK mkV f w b) (ht : P.underlying t = some (.map k e)) (hinj : ∀ a a', mkK a = mkK a' → a = a') (ty : TypeId) (L : List α) (hd : L.Nodup) (hL : ∀ a, a ∈ L ↔ ∃ c, f a = some c) :
    (Builtin.len_ #[t] ty #[.map (some b)]).run P w = .ok (.int .i64 L.length) w := by
  obtain ⟨es, clock, hb, F, h1, h2⟩ := h
  obtain ⟨ks, g1, g2, g3, g4⟩ := TabM.keys F h1
  have e1 : ks.length ≤ L.length := nodup_le ks L g2 (fun x hx => (hL x).2 (g3 x hx))
  have e2 : L.length ≤ ks.length := nodup_le L ks hd (fun x hx => by
    obtain ⟨c, hc⟩ := (hL x).1 hx
    obtain ⟨y, hy, hyk, _⟩ := h2 x c hc
    obtain ⟨a, ha, hak⟩ := g4 y hy
    rwa [hinj x a (hyk.symm.trans hak)])
  have e3 : es.size = L.length := by omega
  simp [Builtin.len_, run_underlying ht, MapKept.run_getObj_map hb, goInt, Result.andThen, e3]
theorem wpList_mapUpdate_tab [DecidableEq α] (w : World) {ops : Array Oper} {rest : List Oper} {o : Oper} {a : Act} {Q : Exit → Act → World → Prop} (hg : o.guard = none) (m x v : Operand) (t : TypeId) (hop : o.op = Op.mapUpdate t m x v) (e : TypeId) (K : Keyed P k) (ht : P.underlying t = some (.map k e))
    (hinj : ∀ a a', mkK a = mkK a' → a = a') (L : List α) (hL : L.length < maxLen) (hfew : ∀ a c, f a = some c → a ∈ L) (hm : a.eval m = .map (some b)) (hown : TabM P k mkK mkV f w b) (key : α) (val : β) (hx : a.eval x = mkK key) (hv : a.eval v = mkV val) (hkey : ∃ kl, keyOf P k (mkK key) = some kl)
    (hK : ∀ w', TabM P k mkK mkV (fun z => if z = key then some val else f z) w' b → w.grownBy w' (some b) → wpList P ops Q rest (a.put o.dst undef) w') :
    wpList P ops Q (o :: rest) a w := by
  refine wpList_plain hg fun K' hK' => ?_
  obtain ⟨w', hrun, r1, r2⟩ := hown.store K ht hinj L hL hfew key val hkey
  unfold Oper.wp
  simp [execOp, hop, hm, hx, hv, hrun, Result.andThen]
  exact hK' _ _ (hK w' r1 r2)
/-- The run of an insertion into a map. -/
theorem run_insert [DecidableEq α] (w : World) {o : Oper} {a : Act} (m x v : Operand) (t : TypeId) (hop : o.op = Op.insert t m x v) (e : TypeId) (K : Keyed P k) (ht : P.underlying t = some (.map k e))
    (hinj : ∀ a a', mkK a = mkK a' → a = a') (L : List α) (hL : L.length < maxLen) (hfew : ∀ a c, f a = some c → a ∈ L) (hm : a.eval m = .map (some b)) (hown : TabM P k mkK mkV f w b) (key : α) (val : β) (hx : a.eval x = mkK key) (hv : a.eval v = mkV val) (hkey : ∃ kl, keyOf P k (mkK key) = some kl) :
    ∃ w', (execOp a.eval o).run P w = .ok .skip w' ∧ TabM P k mkK mkV (fun z => if z = key then some val else f z) w' b ∧ w.grownBy w' (some b) := by
  obtain ⟨w', hrun, r1, r2⟩ := hown.store K ht hinj L hL hfew key val hkey
  refine ⟨w', ?_, r1, r2⟩
  simp [execOp, hop, hm, hx, hv, hrun, Result.andThen]
end
end Go.Proofs.Ytnecgdlhkbbpgaa.Q
