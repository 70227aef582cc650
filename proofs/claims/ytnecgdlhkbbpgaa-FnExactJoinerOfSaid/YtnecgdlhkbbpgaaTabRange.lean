/-
  More of maps that the call itself has made, told whole: 'm[k] += v' (an entry and its store), and 'for k, v := range m' in whatever order.
-/
import Derived.Test.YtnecgdlhkbbpgaaTabM
import Derived.Maps.RangeWalk
import Derived.WideKeyEntry
namespace Go.Proofs.Ytnecgdlhkbbpgaa.Q
open Go.RowKit
open Go.Maps (Keyed)
open Go.WideElems (rg rd rd_key rg_of)

section
variable {P : Program} {k : TypeId} {α β : Type} {mkK : α → Value} {mkV : β → Value} {f : α → Option β} {w : World} {b : Nat}
theorem entry_world {H : Type} {R : Value → Option (DataW H × List MemPlace)} {t e : TypeId} {es : Array MapEntry} {clock : Nat} (K : WideMaps.KeyLaw P k) (ht : P.underlying t = some (.map k e)) {z : Value} (hz : ∀ u : World, (zeroValue e).run P u = .ok z u) (hb : w.heap[b]? = some (.map es clock)) (F : WideElems.Fit P k R es clock)
    {key : Value} {kl : Lit} (hkey : keyOf P k key = some kl) :
    ∃ (v0 : Value) (st : Nat) (w1 : World), (Instr.mapEntry t (.map (some b)) key).run P w = .ok (.tuple #[v0, goInt st]) w1 ∧ (Instr.mapUpdate t (.map (some b)) key v0).run P w = .ok () w1 ∧ ((∃ e0 ∈ es.toList, e0.key = key ∧ v0 = e0.val) ∨ ((∀ x ∈ es.toList, x.key ≠ key) ∧ v0 = z)) := by
  rcases K.find w hkey es.toList F.keys with ⟨h1, h2⟩ | ⟨j, e0, h1, h2, h3⟩
  · refine ⟨z, clock, ChangeMaps.setBlock w b (.map (es.push ⟨key, z, clock⟩) (clock + 1)), ?_, ?_, Or.inr ⟨h2, rfl⟩⟩
    · simp [Instr.mapEntry, run_underlying ht, MapKept.run_getObj_map hb, K.check w false hkey, h1, hz, MapKept.run_setObj_map _ hb, Result.andThen, ChangeMaps.setBlock]
    · simp [Instr.mapUpdate, run_underlying ht, MapKept.run_getObj_map hb, K.check w false hkey, h1, MapKept.run_setObj_map _ hb, Result.andThen, ChangeMaps.setBlock]
  · have hj : es[j]? = some e0 := by simpa using h2
    have hs1 : es.modify j (fun e => { e with key := key }) = es := by
      apply Array.ext'
      rw [Array.toList_modify, ChangeMaps.modify_eq_set _ _ _ _ h2, show ({ e0 with key := key } : MapEntry) = e0 by rw [← h3]]
      exact WideElems.set_self _ _ _ h2
    have hs2 : es.modify j (fun e => { e with key := key, val := e0.val }) = es := by
      apply Array.ext'
      rw [Array.toList_modify, ChangeMaps.modify_eq_set _ _ _ _ h2, show ({ e0 with key := key, val := e0.val } : MapEntry) = e0 by rw [← h3]]
      exact WideElems.set_self _ _ _ h2
    refine ⟨e0.val, e0.born, ChangeMaps.setBlock w b (.map es clock), ?_, ?_, Or.inl ⟨e0, List.mem_of_getElem? h2, h3, rfl⟩⟩
    · simp [Instr.mapEntry, run_underlying ht, MapKept.run_getObj_map hb, K.check w false hkey, h1, hj, h3, K.stays w hkey, hs1, MapKept.run_setObj_map _ hb, Result.andThen, ChangeMaps.setBlock]
    · simp [Instr.mapUpdate, run_underlying ht, MapKept.run_getObj_map hb, K.check w false hkey, h1, hj, h3, K.stays w hkey, hs2, MapKept.run_setObj_map _ hb, Result.andThen, ChangeMaps.setBlock]
/-- 'm[k] += v': the entry, then its store. -/
theorem TabM.entry [DecidableEq α] {t e : TypeId} (h : TabM P k mkK mkV f w b) (KL : WideMaps.KeyLaw P k) (K : Keyed P k) (ht : P.underlying t = some (.map k e)) (hinj : ∀ a a', mkK a = mkK a' → a = a') {z : Value} (hz : ∀ u : World, (zeroValue e).run P u = .ok z u) (c0 : β) (hz0 : z = mkV c0) (L : List α) (hL : L.length < maxLen) (hfew : ∀ a c, f a = some c → a ∈ L) (a : α) (hkey : ∃ kl, keyOf P k (mkK a) = some kl) :
    ∃ (st : Nat) (w1 : World), (Instr.mapEntry t (.map (some b)) (mkK a)).run P w = .ok (.tuple #[mkV ((f a).getD c0), goInt st]) w1 ∧ TabM P k mkK mkV (fun x => if x = a then some ((f a).getD c0) else f x) w1 b ∧ w.grownBy w1 (some b) ∧
      ∀ c, ∃ w2, (Instr.entryStore t (.map (some b)) (goInt st) (mkV c)).run P w1 = .ok () w2 ∧ TabM P k mkK mkV (fun x => if x = a then some c else f x) w2 b ∧ w.grownBy w2 (some b) := by
  have h' := h
  obtain ⟨es, clock, hb, F, h1, h2⟩ := h
  obtain ⟨kl, hkl⟩ := hkey
  obtain ⟨v0, st, w1, r1, r2, r3⟩ := entry_world KL ht hz hb F hkl
  obtain ⟨v0', st', es1, clock1, q1, _, q3⟩ := WideElems.entry_then_store KL ht hz hb F hkl
  have e1 : v0 = mkV ((f a).getD c0) := by
    rcases r3 with ⟨e0, he0, hk0, rfl⟩ | ⟨hno, rfl⟩
    · obtain ⟨a', c, g1, g2, g3⟩ := h1 e0 he0
      obtain rfl := hinj a' a (g1.symm.trans hk0)
      rw [g2, g3]
      rfl
    · cases hf : f a with
      | none => exact hz0
      | some c =>
        obtain ⟨x, hx, hxk, _⟩ := h2 a c hf
        exact absurd hxk (hno x hx)
  rw [q1] at r1
  simp only [Result.ok.injEq, Value.tuple.injEq] at r1
  obtain ⟨g1, g2⟩ := r1
  have g3 : v0' = v0 ∧ goInt st' = goInt st := by
    have := congrArg Array.toList g1
    simpa using this
  obtain ⟨w2, s1, s2, s3⟩ := h'.store K ht hinj L hL hfew a ((f a).getD c0) ⟨kl, hkl⟩
  rw [e1] at r2
  rw [r2] at s1
  simp only [Result.ok.injEq, true_and] at s1
  subst s1
  refine ⟨st', w1, ?_, s2, s3, fun c => ?_⟩
  · rw [q1, g3.1, e1, g2]
  · have hb1 : w1.heap[b]? = some (.map es1 clock1) := by rw [← g2]; exact ChangeMaps.heap_setBlock_same hb _
    obtain ⟨es', clock', u1, u2⟩ := q3 w1 (mkV c) hb1
    obtain ⟨w3, t1, t2, t3⟩ := h'.store K ht hinj L hL hfew a c ⟨kl, hkl⟩
    rw [u2] at t1
    simp only [Result.ok.injEq, true_and] at t1
    have hb3 : w3.heap[b]? = some (.map es' clock') := by rw [← t1]; exact ChangeMaps.heap_setBlock_same hb _
    refine ⟨_, u1, t2.at ?_, ⟨s3.os, s3.tape, s3.output, Nat.le_trans s3.size (by simp [ChangeMaps.setBlock]), fun i hi hne => ?_⟩⟩
    · rw [hb3]
      exact ChangeMaps.heap_setBlock_same hb1 _
    · exact (ChangeMaps.heap_setBlock_other hb1 _ (fun e => hne (by rw [e]))).trans (s3.block i hi hne)
end
section
variable {P : Program} {k : TypeId} {α β : Type} {mkK : α → Value} {mkV : β → Value} {f : α → Option β} {b : Nat}
theorem wpList_insert_tab [DecidableEq α] (w : World) {ops : Array Oper} {rest : List Oper} {o : Oper} {a : Act} {Q : Exit → Act → World → Prop} (hg : o.guard = none) (m x v : Operand) (t : TypeId) (hop : o.op = Op.insert t m x v) (e : TypeId) (K : Keyed P k) (ht : P.underlying t = some (.map k e))
    (hinj : ∀ a a', mkK a = mkK a' → a = a') (L : List α) (hL : L.length < maxLen) (hfew : ∀ a c, f a = some c → a ∈ L) (hm : a.eval m = .map (some b)) (hown : TabM P k mkK mkV f w b) (key : α) (val : β) (hx : a.eval x = mkK key) (hv : a.eval v = mkV val) (hkey : ∃ kl, keyOf P k (mkK key) = some kl)
    (hK : ∀ w', TabM P k mkK mkV (fun z => if z = key then some val else f z) w' b → w.grownBy w' (some b) → wpList P ops Q rest (a.put o.dst undef) w') :
    wpList P ops Q (o :: rest) a w := by
  refine wpList_plain hg fun K' hK' => ?_
  obtain ⟨w', hrun, r1, r2⟩ := hown.store K ht hinj L hL hfew key val hkey
  unfold Oper.wp
  simp [execOp, hop, hm, hx, hv, hrun, Result.andThen]
  exact hK' _ _ (hK w' r1 r2)
end
/-- A map of 64-bit numbers under 'range': todo are the keys that are still to come. -/
def RangeM (P : Program) (k e : TypeId) {α : Type} (mkK : α → Value) (f : α → Option Int) (w : World) (b r : Nat) (todo : List α) : Prop :=
  TabM P k mkK (Value.int .i64) f w b ∧ ∃ n D left cnt, w.ranges P k (plainElem (H := Unit) P e) b r n D left cnt ∧ todo.Nodup ∧ (∀ es clock, w.heap[b]? = some (.map es clock) → ∀ x ∈ es.toList, ∀ a, x.key = mkK a → (left (rg P k (plainElem (H := Unit) P e) x).1 = true ↔ a ∈ todo)) ∧ ∀ a ∈ todo, ∃ c, f a = some c
section
variable {P : Program} {k e : TypeId} {α : Type} {mkK : α → Value} {f : α → Option Int} {w : World} {b r : Nat} {todo : List α}
theorem TabM.owns (h : TabM P k mkK (Value.int .i64) f w b) (he : P.underlying e = some (.int .i64)) (hwf : ∀ a c, f a = some c → (Lit.int .i64 c).wf = true) : ∃ n D, w.ownsMap P k (plainElem (H := Unit) P e) b n D := by
  obtain ⟨es, clock, hb, F, h1, h2⟩ := h
  refine ⟨es.size, _, es, clock, hb, ⟨F.size, F.stamped, fun x hx => ?_⟩, Nat.le_refl _, rfl⟩
  obtain ⟨y, hy⟩ := F.reads x hx
  obtain ⟨a, c, e1, e2, e3⟩ := h1 x hx
  refine ⟨(y.1, .lit (.int .i64 c)), ?_⟩
  have hk := rd_key hy
  simp [rd, hk, e2, plainElem_int he (hwf a c e3)]
/-- 'range m'. -/
theorem wpList_range_tab (w : World) {ops : Array Oper} {rest : List Oper} {o : Oper} {a : Act} {Q : Exit → Act → World → Prop} (hg : o.guard = none) (m : Operand) (t : TypeId) (hop : o.op = Op.range t m) (K : Keyed P k) (ht : P.underlying t = some (.map k e)) (he : P.underlying e = some (.int .i64)) (hwf : ∀ a c, f a = some c → (Lit.int .i64 c).wf = true)
    (hinj : ∀ a a', mkK a = mkK a' → a = a') (hm : a.eval m = .map (some b)) (h : TabM P k mkK (Value.int .i64) f w b)
    (hK : ∀ w' ks, ks.Nodup → (∀ a, a ∈ ks ↔ ∃ c, f a = some c) → RangeM P k e mkK f w' b w.heap.size ks → w.grownBy w' none → w'.heap.size = w.heap.size + 1 → wpList P ops Q rest (a.put o.dst (.pointer (some ⟨w.heap.size, 0, none⟩))) w') :
    wpList P ops Q (o :: rest) a w := by
  obtain ⟨n, D, hown⟩ := TabM.owns h he hwf
  refine wpList_range_own w hg m t hop k e K ht _ b n D hm hown (fun w' hr hgr hs => ?_)
  have h0 := h
  obtain ⟨es, clock, hb, F, h1, h2⟩ := h
  obtain ⟨ks, g1, g2, g3, g4⟩ := TabM.keys F h1
  have hmem : ∀ x, x ∈ ks ↔ ∃ c, f x = some c := fun x => ⟨g3 x, fun ⟨c, hc⟩ => by
    obtain ⟨y, hy, hyk, _⟩ := h2 x c hc
    obtain ⟨x', hx', e'⟩ := g4 y hy
    obtain rfl := hinj x x' (hyk.symm.trans e')
    exact hx'⟩
  refine hK w' ks g2 hmem ⟨h0.kept hgr (by simp), n, D, _, _, hr, g2, fun es' clock' hb' x hx x' hxk => ?_, fun x hx => g3 x hx⟩ hgr hs
  have hb2 := (hgr.block b (Array.getElem?_eq_some_iff.1 hb).1 (by simp)).trans hb
  rw [hb2] at hb'
  simp only [Option.some.injEq, Obj.map.injEq] at hb'
  obtain ⟨rfl, rfl⟩ := hb'
  obtain ⟨c, hc⟩ : ∃ c, f x' = some c := by
    obtain ⟨a', c, e1, _, e3⟩ := h1 x hx
    obtain rfl := hinj a' x' (e1.symm.trans hxk)
    exact ⟨c, e3⟩
  refine ⟨fun _ => (hmem x').2 ⟨c, hc⟩, fun _ => ?_⟩
  obtain ⟨es2, clock2, hb3, F2, _, rfl⟩ := hown
  rw [hb] at hb3
  simp only [Option.some.injEq, Obj.map.injEq] at hb3
  obtain ⟨rfl, rfl⟩ := hb3
  obtain ⟨y, hy⟩ := F2.reads x hx
  exact List.any_eq_true.2 ⟨rg P k _ x, Go.mem_sorted.2 (List.mem_map.2 ⟨x, hx, rfl⟩), WideAt.sameKey_self (by rw [rg_of hy]; exact K.key (rd_key hy))⟩
/-- The step. -/
theorem wpList_next_tab [DecidableEq α] (w : World) {ops : Array Oper} {rest : List Oper} {o : Oper} {a : Act} {Q : Exit → Act → World → Prop} (hg : o.guard = none) (it : Operand) (hop : o.op = Op.next it false) (t : TypeId) (K : Keyed P k) (ht : P.underlying t = some (.map k e)) (he : P.underlying e = some (.int .i64)) (hz : (zeroValue e).run P w = .ok (.int .i64 0) w)
    (hinj : ∀ a a', mkK a = mkK a' → a = a') (hit : a.eval it = .pointer (some ⟨r, 0, none⟩)) (h : RangeM P k e mkK f w b r todo)
    (hDone : todo = [] → wpList P ops Q rest (a.put o.dst (.tuple #[.bool false])) w)
    (hMore : ∀ (x : α) (c : Int) (w' : World), x ∈ todo → f x = some c → RangeM P k e mkK f w' b r (todo.erase x) → w.grownBy w' (some r) → w'.heap.size = w.heap.size → (Instr.entry (.pointer (some ⟨r, 0, none⟩))).run P w' = .ok (.tuple #[mkK x, .int .i64 c]) w' → wpList P ops Q rest (a.put o.dst (.tuple #[.bool true, mkK x, .int .i64 c])) w') :
    wpList P ops Q (o :: rest) a w := by
  obtain ⟨hT, n, D, left, cnt, hr, hnd, hleft, hin⟩ := h
  have hne := hr.ne
  refine wpList_plain hg fun K' hK' => ?_
  unfold Oper.wp
  obtain ⟨es, clock, hb, F, h1, h2⟩ := hT
  have hT : TabM P k mkK (Value.int .i64) f w b := ⟨es, clock, hb, F, h1, h2⟩
  have hown := hr.owns
  rcases hr.next K o.type with ⟨h0, hl, hrun⟩ | ⟨key, v, kl, y, w', cnt', hkey, hlk, hv, hat, hrun, hrg, hlt, hgr, hsz, hen⟩
  · simp [execOp, hop, hit, hrun, Result.andThen]
    refine hK' _ _ (hDone ?_)
    cases todo with
    | nil => rfl
    | cons x l =>
      obtain ⟨c, hc⟩ := hin x (by simp)
      obtain ⟨ex, hx, hxk, _⟩ := h2 x c hc
      have := (hleft es clock hb ex hx x hxk).2 (by simp)
      rw [hl] at this
      cases this
  · obtain ⟨es2, clock2, since, seen, c0, hb2, F2, _, hD, _, _, _, _, hl2, _⟩ := hr
    rw [hb] at hb2
    simp only [Option.some.injEq, Obj.map.injEq] at hb2
    obtain ⟨rfl, rfl⟩ := hb2
    obtain ⟨ex, hx, hxkl⟩ := hl2 kl hlk
    obtain ⟨yx, hyx⟩ := F2.reads ex hx
    have hkx : keyOf P k ex.key = some kl := by rw [← hxkl, rg_of hyx]; exact rd_key hyx
    have hkk : ex.key = key := K.inj hkx hkey
    obtain ⟨x, c, e1, e2, e3⟩ := h1 ex hx
    have hkx2 : key = mkK x := hkk.symm.trans e1
    have hm : x ∈ todo := (hleft es clock hb ex hx x e1).1 (by rw [hxkl]; exact hlk)
    have hvc : v = .int .i64 c := by
      obtain ⟨c', hlook, hat', _⟩ := hown.lookup_int K ht he hz hkey
      have hl := hT.look hinj K ht hz x ⟨kl, by rw [← hkx2]; exact hkey⟩
      rw [← hkx2, hlook, e3] at hl
      simp only [Result.ok.injEq, Value.int.injEq, true_and, and_true] at hl
      obtain ⟨c2, rfl, hc2, _⟩ := plainElem_int_inv he hv
      rw [hat, hc2] at hat'
      simp only [DataW.lit.injEq, Lit.int.injEq, true_and] at hat'
      rw [hat', hl]
    subst hkx2 hvc
    simp [execOp, hop, hit, hrun, Result.andThen]
    refine hK' _ _ (hMore x c w' hm e3 ⟨hT.kept hgr (fun e => hne (Option.some.inj e).symm), n, D, _, cnt', hrg, hnd.erase x, fun es' clock' hb' x2 hx2 a2 hk2 => ?_, fun a2 ha2 => hin a2 (List.mem_of_mem_erase ha2)⟩ hgr hsz hen)
    have hb3 := (hgr.block b (Array.getElem?_eq_some_iff.1 hb).1 (fun e => hne (Option.some.inj e).symm)).trans hb
    rw [hb3] at hb'
    simp only [Option.some.injEq, Obj.map.injEq] at hb'
    obtain ⟨rfl, rfl⟩ := hb'
    have hl := hleft es clock hb x2 hx2 a2 hk2
    obtain ⟨y2, hy2⟩ := F2.reads x2 hx2
    have hk2' : keyOf P k x2.key = some (rg P k (plainElem (H := Unit) P e) x2).1 := by rw [rg_of hy2]; exact rd_key hy2
    rw [hnd.mem_erase_iff]
    have hs : (rg P k (plainElem (H := Unit) P e) x2).1.sameKey kl = true ↔ a2 = x := by
      constructor
      · intro hs
        have := WideAt.sameKey_eq hs
        rw [this] at hk2'
        exact hinj _ _ (hk2.symm.trans (K.inj hk2' hkey))
      · rintro rfl
        have : (rg P k (plainElem (H := Unit) P e) x2).1 = kl := by
          have : some (rg P k (plainElem (H := Unit) P e) x2).1 = some kl := by rw [← hk2', hk2]; exact hkey
          exact Option.some.inj this
        rw [this]
        exact WideAt.sameKey_self (K.key hkey)
    simp only [Bool.and_eq_true, Bool.not_eq_true']
    rw [hl, ← Bool.not_eq_true, hs]
    exact And.comm
theorem RangeM.kept {w' : World} {row : Option Nat} (h : RangeM P k e mkK f w b r todo) (hg : w.grownBy w' row) (hb : some b ≠ row) (hr : some r ≠ row) : RangeM P k e mkK f w' b r todo := by
  obtain ⟨hT, n, D, left, cnt, h1, h2, h3, h4⟩ := h
  have hlt := hT.lt
  exact ⟨hT.kept hg hb, n, D, left, cnt, h1.kept hg hb hr, h2, fun es clock he => h3 es clock ((hg.block b hlt hb).symm.trans he), h4⟩
theorem RangeM.below {w' : World} (h : RangeM P k e mkK f w b r todo) (hb : Below w.heap.size w w') : RangeM P k e mkK f w' b r todo :=
  h.kept (row := none) ⟨hb.os, hb.tape, hb.output, hb.size, fun i hi _ => hb.block i hi⟩ (by simp) (by simp)
theorem RangeM.ne {i : Nat} {cs : Array Value} {t : TypeId} {q : Nat × Nat} (h : RangeM P k e mkK f w b r todo) (hi : w.heap[i]? = some (.cells cs t q)) : some i ≠ some b ∧ some i ≠ some r := by
  obtain ⟨hT, n, D, left, cnt, ⟨es, clock, since, seen, c0, _, _, _, _, hr, _⟩, _⟩ := h
  refine ⟨hT.ne hi, fun e => ?_⟩
  obtain rfl := Option.some.inj e
  rw [hr] at hi
  cases hi
end
end Go.Proofs.Ytnecgdlhkbbpgaa.Q
