/-
  A map that the call itself has made, as a store of right answers: every entry stands in a relation 'good' between its key and its value. The good keys are few; the keys of a kind that can be read.
-/
import Derived.Maps.OwnSet
import Derived.Maps.OwnOps
import Derived.Below
namespace Go.Proofs.Ytimoadhkkbedhaa.Q
open Go.RowKit
open Go.Maps (Keyed)

/-- A reader that takes whatever value stands in an entry. -/
def anyV (_ : Value) : Option (DataW Unit × List MemPlace) := some (.nil, [])
/-- Block b is a map each of whose entries is good. -/
def Memo (P : Program) (k : TypeId) (good : Value → Value → Prop) (w : World) (b : Nat) : Prop :=
  ∃ es clock, w.heap[b]? = some (.map es clock) ∧ WideElems.Fit P k anyV es clock ∧ ∀ x ∈ es.toList, good x.key x.val

variable {P : Program} {k : TypeId} {good : Value → Value → Prop} {w : World} {b : Nat}

theorem Memo.made (w : World) (P : Program) (k : TypeId) (good : Value → Value → Prop) : Memo P k good (w.alloc (.map #[] 0)) w.heap.size :=
  ⟨#[], 0, (MapKept.heap_alloc w _).1, ⟨by simp, MapKept.stamped_empty 0, by simp⟩, by simp⟩
theorem Memo.lt (h : Memo P k good w b) : b < w.heap.size := by
  obtain ⟨es, clock, hb, _⟩ := h
  exact (Array.getElem?_eq_some_iff.1 hb).1
theorem Memo.at {w' : World} (h : Memo P k good w b) (e : w'.heap[b]? = w.heap[b]?) : Memo P k good w' b := by
  obtain ⟨es, clock, hb, F, hg⟩ := h
  exact ⟨es, clock, e.trans hb, F, hg⟩
theorem Memo.kept {w' : World} {row : Option Nat} (h : Memo P k good w b) (hg : w.grownBy w' row) (hne : some b ≠ row) : Memo P k good w' b := h.at (hg.block b h.lt hne)
theorem Memo.below {w' : World} (h : Memo P k good w b) (hb : Below w.heap.size w w') : Memo P k good w' b := h.at (hb.block b h.lt)

theorem Memo.look {t e : TypeId} (h : Memo P k good w b) (K : Keyed P k) (ht : P.underlying t = some (.map k e)) {z : Value} (hz : (zeroValue e).run P w = .ok z w) {key : Value} {kl : Lit} (hkey : keyOf P k key = some kl) :
    (Instr.lookup t (.map (some b)) key true).run P w = .ok (.tuple #[z, .bool false]) w ∨ ∃ v, (Instr.lookup t (.map (some b)) key true).run P w = .ok (.tuple #[v, .bool true]) w ∧ good key v := by
  obtain ⟨es, clock, hb, F, hg⟩ := h
  rcases Maps.fit_look true K ht hz hb F hkey with ⟨hrun, _⟩ | ⟨e0, y, he, hk, hrun, _⟩
  · exact Or.inl hrun
  · exact Or.inr ⟨e0.val, hrun, hk ▸ hg e0 he⟩
/-- Numbers below N, no two alike, are at most N. -/
theorem pigeon : ∀ (N : Nat) (l : List Nat), l.Nodup → (∀ x ∈ l, x < N) → l.length ≤ N
  | 0, l, _, h => by
    cases l with
    | nil => simp
    | cons x l => exact absurd (h x List.mem_cons_self) (by omega)
  | N + 1, l, hd, h => by
    by_cases hN : N ∈ l
    · have := pigeon N (l.erase N) (hd.erase N) (fun x hx => by
        have hx' := (hd.mem_erase_iff).1 hx
        have := h x hx'.2
        omega)
      rw [List.length_erase_of_mem hN] at this
      omega
    · have := pigeon N l hd (fun x hx => by
        have := h x hx
        have : x ≠ N := fun e => hN (e ▸ hx)
        omega)
      omega
/-- The good keys are few: they bear different numbers below N. -/
def Few (good : Value → Value → Prop) : Prop := ∃ (code : Value → Nat) (N : Nat), N < maxLen ∧ (∀ x v, good x v → code x < N) ∧ ∀ x v y u, good x v → good y u → code x = code y → x = y
theorem Few.size {good : Value → Value → Prop} (hfew : Few good) {es : Array MapEntry} {clock : Nat} (F : WideElems.Fit P k anyV es clock) (hg : ∀ x ∈ es.toList, good x.key x.val) : es.size < maxLen := by
  obtain ⟨code, N, hN, h1, h2⟩ := hfew
  have hn := ((MapKept.stamped_iff es clock).1 F.stamped).2.2
  have hd : (es.toList.map (fun x => code x.key)).Nodup := by
    unfold List.Nodup
    rw [List.pairwise_map]
    refine hn.imp_of_mem ?_
    intro a b ha hb h e
    exact h (h2 _ _ _ _ (hg a ha) (hg b hb) e)
  have := pigeon N _ hd (fun y hy => by
    obtain ⟨x, hx, rfl⟩ := List.mem_map.1 hy
    exact h1 _ _ (hg x hx))
  simp at this
  omega
theorem Memo.store {t e : TypeId} (h : Memo P k good w b) (hfew : Few good) (K : Keyed P k) (ht : P.underlying t = some (.map k e)) {key val : Value} {kl : Lit} (hkey : keyOf P k key = some kl) (hgood : good key val) :
    ∃ w', (Instr.mapUpdate t (.map (some b)) key val).run P w = .ok () w' ∧ Memo P k good w' b ∧ w.grownBy w' (some b) := by
  obtain ⟨es, clock, hb, F, hg⟩ := h
  obtain ⟨es', clock', hrun, F', _, _, _, hall⟩ := Maps.fit_store (R' := anyV) K ht hb F (hfew.size F hg) (fun _ _ _ _ hz => hz) hkey (val := val) (yv := (.nil, [])) rfl
  refine ⟨_, hrun, ⟨es', clock', ChangeMaps.heap_setBlock_same hb _, F', fun x hx => ?_⟩, ⟨rfl, rfl, rfl, by simp [ChangeMaps.setBlock], fun i _ hi => ChangeMaps.heap_setBlock_other hb _ (fun e => hi (by rw [e]))⟩⟩
  rcases hall x hx with ⟨h1, _⟩ | ⟨h1, h2⟩
  · exact hg x h1
  · rw [h1, h2]
    exact hgood
theorem wpList_mapUpdate_memo (w : World) {ops : Array Oper} {rest : List Oper} {o : Oper} {a : Act} {Q : Exit → Act → World → Prop} (hg : o.guard = none) (m x v : Operand) (t : TypeId) (hop : o.op = Op.mapUpdate t m x v)
    (k e : TypeId) (K : Keyed P k) (ht : P.underlying t = some (.map k e)) (good : Value → Value → Prop) (b : Nat)
    (hm : a.eval m = .map (some b)) (hown : Memo P k good w b) (hfew : Few good) (key val : Value) (kl : Lit) (hx : a.eval x = key) (hv : a.eval v = val) (hkey : keyOf P k key = some kl) (hgood : good key val)
    (hK : ∀ w', Memo P k good w' b → w.grownBy w' (some b) → wpList P ops Q rest (a.put o.dst undef) w') :
    wpList P ops Q (o :: rest) a w := by
  refine wpList_plain hg fun K' hK' => ?_
  obtain ⟨w', hrun, r1, r2⟩ := hown.store hfew K ht hkey hgood
  unfold Oper.wp
  simp [execOp, hop, hm, hx, hv, hrun, Result.andThen]
  exact hK' _ _ (hK w' r1 r2)
end Go.Proofs.Ytimoadhkkbedhaa.Q
