/-
  What the program's 'results' reckons, without its store: at most d nodes deep; with rounds k. Boards of n nodes with the lines L; sets below 2^16.
  results: the function that it makes tells results of races, whatever has been stored before, as long as what is stored is right. As far as 'raceF' goes.
  results: the function that it makes keeps its contract at every depth; and its making. As far as 'raceF' goes.
  bestNodes: the nodes that keep a result, with a function that tells results. As far as 'raceF' goes.
-/
import Derived.Test.YtbmkhdeeengbmaaNodes
import Derived.Test.YtbmkhdeeengbmaaHof
import Derived.DeepKeys4

namespace Go.Proofs.Ytbmkhdeeengbmaa.Q
open Go.RowKit Go.Proofs.YtbmkhdeeengbmaaW.PrintWords Go.Proofs.YtbmkhdeeengbmaaW.PrintLast Go.Proofs.YtbmkhdeeengbmaaW.PrintMore

/-- The greatest of what is told at a list's elements, and a number. -/
def maxL (f : Int → Option Int) : List Int → Int → Option Int
  | [], b => some b
  | x :: xs, b => (f x).bind fun n => maxL f xs (mx b n)
theorem maxL_mono {p q : Int → Option Int} (h : ∀ i, LeO (p i) (q i)) (l : List Int) : ∀ b, LeO (maxL p l b) (maxL q l b) := by
  induction l with
  | nil => intro b; exact LeO.refl _
  | cons x l ih => intro b; exact LeO.bind (h x) (fun _ => ih _)
/-- What taking a node brings, by what is told of the state behind it. -/
def behindF (f : Int → Int → Option Int) (k : Nat) (n : Int) (L : List Int) (o t p : Int) : Option Int :=
  if 0 ≤ p then (impl_Board_filled.f k n L (withN o p)).bind fun q => if q = 0 then (impl_Board_free.f n L (withN o p) t).bind fun l => if l.length = 0 then some 0 else (f t (withN o p)).bind fun s => some (wrap64 (-s)) else some 1 else none
theorem behindF_mono {p q : Int → Int → Option Int} (h : ∀ i j, LeO (p i j) (q i j)) (k : Nat) (n : Int) (L : List Int) (o t x : Int) : LeO (behindF p k n L o t x) (behindF q (k + 1) n L o t x) :=
  LeO.ite (LeO.bind (impl_Board_filled.mono _ _ _ k) (fun _ => LeO.ite (LeO.bind (LeO.refl _) (fun _ => LeO.ite (LeO.refl _) (LeO.bind (h _ _) (fun _ => LeO.refl _)))) (LeO.refl _))) (LeO.refl _)
theorem behindF_le {p q : Int → Int → Option Int} (h : ∀ i j, LeO (p i j) (q i j)) (k : Nat) (n : Int) (L : List Int) (o t x : Int) : LeO (behindF p k n L o t x) (behindF q k n L o t x) :=
  LeO.ite (LeO.bind (LeO.refl _) (fun _ => LeO.ite (LeO.bind (LeO.refl _) (fun _ => LeO.ite (LeO.refl _) (LeO.bind (h _ _) (fun _ => LeO.refl _)))) (LeO.refl _))) (LeO.refl _)
def raceF (k : Nat) (n : Int) (L : List Int) : Nat → Int → Int → Option Int
  | 0, _, _ => none
  | d + 1, o, t => if okR o t then (impl_Board_free.f n L o t).bind fun l => if l.length ≤ 100 then maxL (behindF (raceF k n L d) k n L o t) l (-1) else none else none
theorem raceF_mono (n : Int) (L : List Int) (d : Nat) : ∀ (k : Nat) (o t : Int), LeO (raceF k n L d o t) (raceF (k + 1) n L d o t) := by
  induction d with
  | zero => intro k o t; exact LeO.refl _
  | succ d ih =>
    intro k o t
    exact LeO.ite (LeO.bind (LeO.refl _) (fun _ => LeO.ite (maxL_mono (fun _ => behindF_mono (ih k) _ _ _ _ _ _) _ _) (LeO.refl _))) (LeO.refl _)
theorem raceF_deeper (k : Nat) (n : Int) (L : List Int) (d : Nat) : ∀ (o t : Int), LeO (raceF k n L d o t) (raceF k n L (d + 1) o t) := by
  induction d with
  | zero => intro o t; exact LeO.none _
  | succ d ih =>
    intro o t
    exact LeO.ite (LeO.bind (LeO.refl _) (fun _ => LeO.ite (maxL_mono (fun _ => behindF_le ih _ _ _ _ _ _) _ _) (LeO.refl _))) (LeO.refl _)
theorem raceF_upto (k : Nat) (n : Int) (L : List Int) (d e : Nat) (o t : Int) : LeO (raceF k n L d o t) (raceF k n L (d + e) o t) := by
  induction e with
  | zero => exact LeO.refl _
  | succ e ih => exact LeO.trans ih (raceF_deeper k n L (d + e) o t)
theorem raceF_one (k : Nat) (n : Int) (L : List Int) (d e : Nat) (o t : Int) (r s : Int) (h : raceF k n L d o t = some r) (h' : raceF k n L e o t = some s) : r = s := by
  have h1 := raceF_upto k n L d e o t r h
  have h2 := raceF_upto k n L e d o t s h'
  rw [Nat.add_comm] at h2
  exact Option.some.inj (h1.symm.trans h2)
theorem raceF_ok (k : Nat) (n : Int) (L : List Int) (d : Nat) (o t : Int) (r : Int) (h : raceF k n L d o t = some r) : okR o t := by
  cases d with
  | zero => cases h
  | succ d =>
    unfold raceF at h
    split at h
    · assumption
    · cases h
end Go.Proofs.Ytbmkhdeeengbmaa.Q

namespace Go.Proofs.Ytbmkhdeeengbmaa.Q
open Go.RowKit Go.Proofs.YtbmkhdeeengbmaaW.PrintWords Go.Proofs.YtbmkhdeeengbmaaW.PrintLast Go.Proofs.YtbmkhdeeengbmaaW.PrintMore
open Go.Maps (Keyed)

theorem laidMap : laidOutB Try.prog = true := by kernel_rfl
theorem raceLaw : Keyed Try.prog 46 := Keyed.of_law (deep_law_laid laidMap (m := 5) (by decide) (of_decide_eq_true (by kernel_rfl)) (by kernel_rfl) (by kernel_rfl))
def rcV (o t : Int) : Value := .agg #[.int .i64 o, .int .i64 t]
theorem race_key (o t : Int) (h0 : (Lit.int .i64 o).wf = true) (h1 : (Lit.int .i64 t).wf = true) : ∃ l, keyOf Try.prog 46 (rcV o t) = some l := by
  have e : keyOf Try.prog 46 (rcV o t) = (Try.prog.keyLits (Try.prog.types.size + 1) 46 [.int .i64 o, .int .i64 t]).map fun ls => .string (keyBytes ls) := by kernel_rfl
  have hz : Try.prog.types.size + 1 = (Try.prog.types.size - 1) + 2 := by
    have : 1 ≤ Try.prog.types.size := of_decide_eq_true (by kernel_rfl)
    omega
  rw [e, hz]
  generalize Try.prog.types.size - 1 = n
  have c1 : Try.prog.cellsOf 46 = 2 := by kernel_rfl
  have c3 : Try.prog.cellsOf 2 = 1 := by kernel_rfl
  simp [Program.keyLits, Try.underlying46, Try.underlying2, c1, c3, h0, h1]
/-- What the store of 'results' holds: right answers alone. -/
def goodR (k : Nat) (n : Int) (L : List Int) (key v : Value) : Prop := ∃ (o t : Int) (d : Nat) (r : Int), key = rcV o t ∧ v = .int .i64 r ∧ raceF k n L d o t = some r
def codeR (v : Value) : Nat := match v with
  | .agg cs => (intOf (cs.getD 0 undef)).toNat * 65536 + (intOf (cs.getD 1 undef)).toNat
  | _ => 0
theorem codeR_rc (o t : Int) : codeR (rcV o t) = o.toNat * 65536 + t.toNat := rfl
theorem goodR_few (k : Nat) (n : Int) (L : List Int) : Few (goodR k n L) := by
  refine ⟨codeR, 65536 * 65536, by decide, ?_, ?_⟩
  · rintro _ _ ⟨o, t, d, r, rfl, rfl, h⟩
    obtain ⟨h0, h1, h2, h3⟩ := raceF_ok k n L d o t r h
    rw [codeR_rc]
    omega
  · rintro _ _ _ _ ⟨o, t, d, r, rfl, rfl, h⟩ ⟨o', t', d', r', rfl, rfl, h'⟩ e
    obtain ⟨h0, h1, h2, h3⟩ := raceF_ok k n L d o t r h
    obtain ⟨k0, k1, k2, k3⟩ := raceF_ok k n L d' o' t' r' h'
    rw [codeR_rc, codeR_rc] at e
    obtain rfl : o = o' := by omega
    obtain rfl : t = t' := by omega
    rfl
/-- A row that came in before a block was made. -/
def RowAt (b : Nat) (A : Option Addr) (L : List Int) (w : World) : Prop := ∃ w0 : World, w0.heap.size ≤ b ∧ Kd.C (Kd.int .i64) w0 A L.length L ∧ ∀ i, i < w0.heap.size → w.heap[i]? = w0.heap[i]?
section
variable {b : Nat} {A : Option Addr} {L : List Int} {w w' : World}
theorem RowAt.reads (h : RowAt b A L w) : Kd.C (Kd.int .i64) w A L.length L := by
  obtain ⟨w0, _, hc, hk⟩ := h
  exact (Kd.heap_int .i64).C hk hc
theorem RowAt.step (h : RowAt b A L w) (hs : ∀ i, i < b → i < w.heap.size → w'.heap[i]? = w.heap[i]?) (hl : b ≤ w.heap.size) : RowAt b A L w' := by
  obtain ⟨w0, hb, hc, hk⟩ := h
  exact ⟨w0, hb, hc, fun i hi => (hs i (by omega) (by omega)).trans (hk i hi)⟩
theorem RowAt.came (h : Kd.C (Kd.int .i64) w A L.length L) (hb : w.heap.size ≤ b) : RowAt b A L w := ⟨w, hb, h, fun _ _ => rfl⟩
end
/-- The variables that the function captures, and its store. -/
structure EnvR (k : Nat) (n : Int) (A : Option Addr) (c : Nat) (L : List Int) (qk qb qf b : Nat) (w : World) : Prop where
  known : w.heap[qk]? = some (.cells #[.map (some b)] 68 (0, 0))
  board : w.heap[qb]? = some (.cells #[.int .i64 n, .slice A L.length c] 26 (0, 0))
  find : w.heap[qf]? = some (.cells #[.func (.func 45) #[] #[.pointer (some ⟨qk, 0, none⟩), .pointer (some ⟨qb, 0, none⟩), .pointer (some ⟨qf, 0, none⟩)]] 43 (0, 0))
  memo : Memo Try.prog 46 (goodR k n L) w b
  row : RowAt b A L w
theorem at_block {w : World} {i : Nat} {o : Obj} (h : w.heap[i]? = some o) : i < w.heap.size := (Array.getElem?_eq_some_iff.1 h).1
theorem Memo.ne {P : Program} {q : TypeId} {good : Value → Value → Prop} {w : World} {b i : Nat} {cs : Array Value} {t : TypeId} {f : Nat × Nat} (h : Memo P q good w b) (hi : w.heap[i]? = some (.cells cs t f)) : some i ≠ some b := by
  obtain ⟨es, clock, hb, _⟩ := h
  intro e
  obtain rfl := Option.some.inj e
  rw [hb] at hi
  cases hi
section
variable {k : Nat} {n : Int} {A : Option Addr} {c : Nat} {L : List Int} {qk qb qf b : Nat} {w w' : World}
theorem EnvR.grown (h : EnvR k n A c L qk qb qf b w) (hg : w.grownBy w' (some b)) (hm : Memo Try.prog 46 (goodR k n L) w' b) : EnvR k n A c L qk qb qf b w' :=
  ⟨blk_grown h.known hg (h.memo.ne h.known), blk_grown h.board hg (h.memo.ne h.board), blk_grown h.find hg (h.memo.ne h.find), hm, h.row.step (fun i hi hl => hg.block i hl (fun e => by have := Option.some.inj e; omega)) (Nat.le_of_lt h.memo.lt)⟩
theorem EnvR.below (h : EnvR k n A c L qk qb qf b w) (hb : Below w.heap.size w w') : EnvR k n A c L qk qb qf b w' :=
  ⟨blk_below h.known hb, blk_below h.board hb, blk_below h.find hb, h.memo.below hb, h.row.step (fun i _ hl => hb.block i hl) (Nat.le_of_lt h.memo.lt)⟩
end
/-- The function's value. -/
def fnR (qk qb qf : Nat) : Value := .func (.func 45) #[] #[.pointer (some ⟨qk, 0, none⟩), .pointer (some ⟨qb, 0, none⟩), .pointer (some ⟨qf, 0, none⟩)]
/-- The function's contract at a depth. -/
def FindR (k : Nat) (n : Int) (A : Option Addr) (c : Nat) (L : List Int) (d : Nat) : Prop := ∀ (o t r : Int) (w : World) (qk qb qf b : Nat), EnvR k n A c L qk qb qf b w → raceF k n L d o t = some r →
  Calls Try.prog 45 #[.agg #[.int .i64 o, .int .i64 t], .pointer (some ⟨qk, 0, none⟩), .pointer (some ⟨qb, 0, none⟩), .pointer (some ⟨qf, 0, none⟩)] w fun e w' => e = .returned (.int .i64 r) ∧ EnvR k n A c L qk qb qf b w' ∧ w.grownBy w' (some b)
/-- The world of 'behind': the function's variables, the board's and the state's variables. -/
structure BehR (k : Nat) (n : Int) (A : Option Addr) (c : Nat) (L : List Int) (qk qb qf b gb gs : Nat) (w0 : World) (o t : Int) (w : World) : Prop where
  env : EnvR k n A c L qk qb qf b w
  bd : w.heap[gb]? = some (.cells #[.int .i64 n, .slice A L.length c] 26 (0, 0))
  st : w.heap[gs]? = some (.cells #[.int .i64 o, .int .i64 t] 46 (0, 0))
  grow : w0.grownBy w (some b)
section
variable {k : Nat} {n : Int} {A : Option Addr} {c : Nat} {L : List Int} {qk qb qf b gb gs : Nat} {w0 w w' : World} {o t : Int}
theorem BehR.below (h : BehR k n A c L qk qb qf b gb gs w0 o t w) (hb : Below w.heap.size w w') : BehR k n A c L qk qb qf b gb gs w0 o t w' := ⟨h.env.below hb, blk_below h.bd hb, blk_below h.st hb, grown_then h.grow (grown_below hb)⟩
theorem BehR.grown (h : BehR k n A c L qk qb qf b gb gs w0 o t w) (he : EnvR k n A c L qk qb qf b w') (hg : w.grownBy w' (some b)) : BehR k n A c L qk qb qf b gb gs w0 o t w' := ⟨he, blk_grown h.bd hg (h.env.memo.ne h.bd), blk_grown h.st hg (h.env.memo.ne h.st), grown_then h.grow hg⟩
theorem BehR.cells (h : Aside0 (BehR k n A c L qk qb qf b gb gs w0 o t w)) : w.cell? ⟨gb, 0, none⟩ = some (.int .i64 n) ∧ w.cell? ⟨gb, 1, none⟩ = some (.slice A L.length c) ∧ w.cell? ⟨gs, 0, none⟩ = some (.int .i64 o) ∧ w.cell? ⟨gs, 1, none⟩ = some (.int .i64 t) ∧ Aside0 (BehR k n A c L qk qb qf b gb gs w0 o t w) :=
  ⟨blk_cell h.out.bd 0, blk_cell h.out.bd 1, blk_cell h.out.st 0, blk_cell h.out.st 1, h⟩
end
theorem BehR.step {k : Nat} {n : Int} {A : Option Addr} {c : Nat} {L : List Int} {qk qb qf b gb gs : Nat} {w0 w w' : World} {o t : Int} (h : Aside0 (BehR k n A c L qk qb qf b gb gs w0 o t w)) (hb : Below w.heap.size w w') : Aside0 (BehR k n A c L qk qb qf b gb gs w0 o t w') := ⟨h.out.below hb⟩
theorem BehR.reads {k : Nat} {n : Int} {A : Option Addr} {c : Nat} {L : List Int} {qk qb qf b gb gs : Nat} {w0 w : World} {o t : Int} (h : Aside0 (BehR k n A c L qk qb qf b gb gs w0 o t w)) : Kd.C (Kd.int .i64) w A L.length L := h.out.env.row.reads
theorem allocs2 (w : World) (o0 o1 : Obj) : ((w.alloc o0).alloc o1).heap[w.heap.size]? = some o0 ∧ ((w.alloc o0).alloc o1).heap[w.heap.size + 1]? = some o1 ∧ Below w.heap.size w ((w.alloc o0).alloc o1) := by
  refine ⟨?_, ?_, ((Below.refl _ _).alloc (Nat.le_refl _) _).alloc (by simp <;> omega) _⟩
  · rw [(MapKept.heap_alloc _ _).2 _ (by simp)]
    exact (MapKept.heap_alloc w o0).1
  · simpa using (MapKept.heap_alloc (w.alloc o0) o1).1
set_option linter.unusedSimpArgs false
set_option maxRecDepth 100000
set_option maxHeartbeats 4000000 in
theorem behind_calls (k : Nat) (n : Int) (A : Option Addr) (c : Nat) (L : List Int) (hc : L.length ≤ c) (d : Nat) (ih : FindR k n A c L d) (o t p r : Int) (w : World) (qk qb qf b : Nat) (hE : EnvR k n A c L qk qb qf b w) (h : behindF (raceF k n L d) k n L o t p = some r) :
    Calls Try.prog 46 #[.agg #[.int .i64 n, .slice A L.length c], .agg #[.int .i64 o, .int .i64 t], .int .i64 p, .func (.func 45) #[] #[.pointer (some ⟨qk, 0, none⟩), .pointer (some ⟨qb, 0, none⟩), .pointer (some ⟨qf, 0, none⟩)]] w fun e w' => e = .returned (.int .i64 r) ∧ EnvR k n A c L qk qb qf b w' ∧ w.grownBy w' (some b) := by
  unfold behindF at h
  split at h
  rotate_left
  · cases h
  rename_i hp
  generalize hw1 : (w.alloc (.cells #[.int .i64 n, .slice A L.length c] 26)).alloc (.cells #[.int .i64 o, .int .i64 t] 46) = w1
  obtain ⟨ha0, ha1, ha2⟩ := allocs2 w (.cells #[.int .i64 n, .slice A L.length c] 26) (.cells #[.int .i64 o, .int .i64 t] 46)
  rw [hw1] at ha0 ha1 ha2
  have HS1 : Aside0 (BehR k n A c L qk qb qf b w.heap.size (w.heap.size + 1) w o t w1) := ⟨hE.below ha2, ha0, ha1, grown_below ha2⟩
  obtain ⟨hc0, hc1, hc2, hc3, _⟩ := BehR.cells HS1
  obtain ⟨q, hq, h⟩ := Option.bind_eq_some_iff.1 h
  have hu := Try.underlying26
  have hu2 := Try.underlying46
  have HQ := Aside0.mk hq
  have HC := Aside0.mk hc
  have HF := Aside0.mk ih
  generalize hm : withN o p = m at h HQ
  unfold withN at hm
  generalize hj : shl .i64 1 p = j at hm
  have hji8_ : (IntKind.i64.wrap (1 * 2 ^ min p.toNat 64)) = j := hj
  have hji8z : p ≤ 64 → (IntKind.i64.wrap (1 * 2 ^ p.toNat)) = j := shl_small hj
  have hji8u : (IntKind.i64.wrap (2 ^ min p.toNat 64)) = j := by have h_ := hji8_; rw [Int.one_mul] at h_; exact h_
  have hji8v : p ≤ 64 → (IntKind.i64.wrap (2 ^ p.toNat)) = j := fun hle_ => by have h_ := hji8z hle_; rw [Int.one_mul] at h_; exact h_
  have hji8y : (wrap64 (1 * 2 ^ min p.toNat 64)) = j := (i64_w _).symm.trans hji8_
  have hji8x : p ≤ 64 → (wrap64 (1 * 2 ^ p.toNat)) = j := fun h_ => (i64_w _).symm.trans (hji8z h_)
  clear hq hE ih hc ha0 ha1 ha2
  by_cases e : q = 0
  · rw [if_pos e] at h
    subst e
    obtain ⟨l, hl, h⟩ := Option.bind_eq_some_iff.1 h
    have HL := Aside0.mk hl
    have hzl : l.length = 0 ∨ l.length ≠ 0 := by omega
    rcases hzl with hz | hz
    · rw [if_pos hz] at h
      obtain rfl := Option.some.inj h
      obtain rfl := List.eq_nil_of_length_eq_zero hz
      clear h hl hz
      go_enter Try.func46, Try.ntmps46
      go_wp2_with fail
      go_region_held3 (fun w' => w'.cell? ⟨w.heap.size, 0, none⟩ = some (.int .i64 n) ∧ w'.cell? ⟨w.heap.size, 1, none⟩ = some (.slice A L.length c) ∧ w'.cell? ⟨w.heap.size + 1, 0, none⟩ = some (.int .i64 o) ∧ w'.cell? ⟨w.heap.size + 1, 1, none⟩ = some (.int .i64 t) ∧ Aside0 (BehR k n A c L qk qb qf b w.heap.size (w.heap.size + 1) w o t w'))
        (first | exact BehR.cells ⟨HS1.out.below (below_drew (Below.refl _ _))⟩) (fail)
      go_wp2_with (first
        | (go_at_call 34; go_split_ands; refine (impl_Board_filled.calls k n A c L m 0 _ (BehR.reads (by assumption)) HC.out HQ.out).mono ?_; rintro e w2 ⟨rfl, hb2⟩; obtain ⟨hd0, hd1, hd2, hd3, HS2⟩ := BehR.cells (BehR.step (by assumption) hb2))
        | (go_at_call 35; refine (impl_Board_free.calls n A c L m t [] _ HS2.out.env.row.reads HC.out HL.out).mono ?_; rintro e w3 ⟨v3, rfl, ho3, hb3⟩; obtain ⟨A3, c3, rfl, hl3, hC3⟩ := Kd.R_reads ho3; obtain ⟨he0, he1, he2, he3, HS3⟩ := BehR.cells (BehR.step HS2 hb3)))
      go_ret
      exact ⟨rfl, HS3.out.env, HS3.out.grow⟩
    · rw [if_neg hz] at h
      obtain ⟨s, hs, h⟩ := Option.bind_eq_some_iff.1 h
      obtain rfl := Option.some.inj h
      have hlz : ((l.length : Int) == 0) = false := beq_eq_false_iff_ne.2 (by omega)
      have HN := Aside0.mk hs
      clear h hl hz hs
      go_enter Try.func46, Try.ntmps46
      go_wp2_with fail
      go_region_held3 (fun w' => w'.cell? ⟨w.heap.size, 0, none⟩ = some (.int .i64 n) ∧ w'.cell? ⟨w.heap.size, 1, none⟩ = some (.slice A L.length c) ∧ w'.cell? ⟨w.heap.size + 1, 0, none⟩ = some (.int .i64 o) ∧ w'.cell? ⟨w.heap.size + 1, 1, none⟩ = some (.int .i64 t) ∧ Aside0 (BehR k n A c L qk qb qf b w.heap.size (w.heap.size + 1) w o t w'))
        (first | exact BehR.cells ⟨HS1.out.below (below_drew (Below.refl _ _))⟩) (fail)
      go_wp2_with (first
        | (go_at_call 34; go_split_ands; refine (impl_Board_filled.calls k n A c L m 0 _ (BehR.reads (by assumption)) HC.out HQ.out).mono ?_; rintro e w2 ⟨rfl, hb2⟩; obtain ⟨hd0, hd1, hd2, hd3, HS2⟩ := BehR.cells (BehR.step (by assumption) hb2))
        | (go_at_call 35; refine (impl_Board_free.calls n A c L m t l _ HS2.out.env.row.reads HC.out HL.out).mono ?_; rintro e w3 ⟨v3, rfl, ho3, hb3⟩; obtain ⟨A3, c3, rfl, hl3, hC3⟩ := Kd.R_reads ho3; obtain ⟨he0, he1, he2, he3, HS3⟩ := BehR.cells (BehR.step HS2 hb3))
        | (go_at_call 45; refine (HF.out t m s _ qk qb qf b HS3.out.env HN.out).mono ?_; rintro e w4 ⟨rfl, he4, hg4⟩))
      go_ret
      exact ⟨rfl, he4, grown_then HS3.out.grow hg4⟩
  · rw [if_neg e] at h
    obtain rfl := Option.some.inj h
    have hne : (q != 0) = true := by simpa using e
    clear h
    go_enter Try.func46, Try.ntmps46
    go_wp2_with fail
    go_region_held3 (fun w' => w'.cell? ⟨w.heap.size, 0, none⟩ = some (.int .i64 n) ∧ w'.cell? ⟨w.heap.size, 1, none⟩ = some (.slice A L.length c) ∧ w'.cell? ⟨w.heap.size + 1, 0, none⟩ = some (.int .i64 o) ∧ w'.cell? ⟨w.heap.size + 1, 1, none⟩ = some (.int .i64 t) ∧ Aside0 (BehR k n A c L qk qb qf b w.heap.size (w.heap.size + 1) w o t w'))
      (first | exact BehR.cells ⟨HS1.out.below (below_drew (Below.refl _ _))⟩) (fail)
    go_wp2_with (first
      | (go_at_call 34; go_split_ands; refine (impl_Board_filled.calls k n A c L m q _ (BehR.reads (by assumption)) HC.out HQ.out).mono ?_; rintro e w2 ⟨rfl, hb2⟩; obtain ⟨hd0, hd1, hd2, hd3, HS2⟩ := BehR.cells (BehR.step (by assumption) hb2)))
    go_ret
    exact ⟨rfl, HS2.out.env, HS2.out.grow⟩
end Go.Proofs.Ytbmkhdeeengbmaa.Q

namespace Go.Proofs.Ytbmkhdeeengbmaa.Q
open Go.RowKit Go.Proofs.YtbmkhdeeengbmaaW.PrintWords Go.Proofs.YtbmkhdeeengbmaaW.PrintLast Go.Proofs.YtbmkhdeeengbmaaW.PrintMore
open Go.Maps (Keyed)

theorem zero_int (w : World) : (zeroValue 2).run Try.prog w = .ok (.int .i64 0) w := by kernel_rfl
/-- The loop's world: the captured variables, and the state. -/
structure LoopR (k : Nat) (n : Int) (A : Option Addr) (c : Nat) (L : List Int) (qk qb qf b gs : Nat) (w0 : World) (o t : Int) (w : World) : Prop where
  env : EnvR k n A c L qk qb qf b w
  st : w.heap[gs]? = some (.cells #[.int .i64 o, .int .i64 t] 46 (0, 0))
  grow : w0.grownBy w (some b)
section
variable {k : Nat} {n : Int} {A : Option Addr} {c : Nat} {L : List Int} {qk qb qf b gs : Nat} {w0 w w' : World} {o t : Int}
theorem LoopR.below (h : LoopR k n A c L qk qb qf b gs w0 o t w) (hb : Below w.heap.size w w') : LoopR k n A c L qk qb qf b gs w0 o t w' := ⟨h.env.below hb, blk_below h.st hb, grown_then h.grow (grown_below hb)⟩
theorem LoopR.grown (h : LoopR k n A c L qk qb qf b gs w0 o t w) (he : EnvR k n A c L qk qb qf b w') (hg : w.grownBy w' (some b)) : LoopR k n A c L qk qb qf b gs w0 o t w' := ⟨he, blk_grown h.st hg (h.env.memo.ne h.st), grown_then h.grow hg⟩
end
theorem mx_old {a b : Int} (h : b ≤ a) : mx a b = a := by unfold mx; rw [if_neg (by omega)]
theorem mx_new {a b : Int} (h : a < b) : mx a b = b := by unfold mx; rw [if_pos h]
theorem own_b {b n : Nat} (h : b < n) : ∀ k, n ≤ k → some k ≠ some b := fun k hk e => by have := Option.some.inj e; omega
set_option linter.unusedSimpArgs false
set_option maxRecDepth 100000
set_option maxHeartbeats 4000000 in
theorem race_step (k : Nat) (n : Int) (A : Option Addr) (c : Nat) (L : List Int) (hc : L.length ≤ c) (d : Nat) (ih : FindR k n A c L d) : FindR k n A c L (d + 1) := by
  intro o t r w qk qb qf b hE h0
  have h := h0
  simp only [raceF] at h
  split at h
  rotate_left
  · cases h
  rename_i hok
  obtain ⟨l, hl, h⟩ := Option.bind_eq_some_iff.1 h
  split at h
  rotate_left
  · cases h
  have hwo : (Lit.int .i64 o).wf = true := WalkArith.wf_i64 (by have := hok; unfold okR at this; omega)
  have hwt : (Lit.int .i64 t).wf = true := WalkArith.wf_i64 (by have := hok; unfold okR at this; omega)
  obtain ⟨key, hkey⟩ := race_key o t hwo hwt
  unfold rcV at hkey
  generalize hw1 : w.alloc (.cells #[.int .i64 o, .int .i64 t] 46) = w1
  have HB1 : Aside0 (Below w.heap.size w w1) := ⟨by rw [← hw1]; exact (Below.refl _ _).alloc (Nat.le_refl _) _⟩
  have HS1 : Aside0 (LoopR k n A c L qk qb qf b w.heap.size w o t w1) := ⟨⟨hE.below HB1.out, by rw [← hw1]; simpa using heap_alloc_new w (.cells #[.int .i64 o, .int .i64 t] 46), grown_below HB1.out⟩⟩
  have hck : w1.cell? ⟨qk, 0, none⟩ = some (.map (some b)) := blk_cell HS1.out.env.known 0
  have hcb0 : w1.cell? ⟨qb, 0, none⟩ = some (.int .i64 n) := blk_cell HS1.out.env.board 0
  have hcb1 : w1.cell? ⟨qb, 1, none⟩ = some (.slice A L.length c) := blk_cell HS1.out.env.board 1
  have hc0 : w1.cell? ⟨w.heap.size, 0, none⟩ = some (.int .i64 o) := blk_cell HS1.out.st 0
  have hc1 : w1.cell? ⟨w.heap.size, 1, none⟩ = some (.int .i64 t) := blk_cell HS1.out.st 1
  have hu := Try.underlying26
  have hu2 := Try.underlying46
  have hlook := HS1.out.env.memo.look raceLaw Try.underlying68 (zero_int w1) hkey
  unfold rcV at hlook
  rcases hlook with hmiss | ⟨v, hhit, hgood⟩
  · have HL := Aside0.mk hl
    have HC := Aside0.mk hc
    have HF := Aside0.mk ih
    have HK := Aside0.mk hkey
    have HG : Aside0 (goodR k n L (.agg #[.int .i64 o, .int .i64 t]) (.int .i64 r)) := ⟨⟨o, t, d + 1, r, rfl, rfl, h0⟩⟩
    have HA : Aside0 (maxL (behindF (raceF k n L d) k n L o t) l (-1) = some r) := ⟨h⟩
    clear h h0 hl hok hwo hwt hkey hE ih hc
    go_enter Try.func45, Try.ntmps45
    go_wp2_with (go_at_call 35; refine (impl_Board_free.calls n A c L o t l _ HS1.out.env.row.reads HC.out HL.out).mono ?_; rintro e w4 ⟨v4, rfl, ho4, hb4⟩; obtain ⟨A4, c4, rfl, hl4, hC4⟩ := Kd.R_reads ho4)
    have HBM : Aside0 (b < w1.heap.size) := ⟨HS1.out.env.memo.lt⟩
    have HS4 : Aside0 (LoopR k n A c L qk qb qf b w.heap.size w o t w4) := ⟨HS1.out.below hb4⟩
    have HO4 : Aside0 (Kd.R (Kd.int .i64) 2 w4 w1.heap.size (fun k_ => w1.heap.size ≤ k_) (.slice A4 l.length c4) l) := ⟨Kd.R_mono (Kd.R_bound ho4) (fun _ hk => hk.2.1)⟩
    clear ho4 hb4 hC4 hw1 hmiss hck hcb0 hcb1 hc0 hc1 HS1 HL
    go_loopg [8, 10, 26] l.length (fun gg' s8 _ s26 wr => ∃ (kk : Nat) (best : Int), kk ≤ l.length ∧ l.length - kk ≤ gg' ∧ s26 = .int .i64 kk ∧ s8 = .int .i64 best ∧ Aside0 (LoopR k n A c L qk qb qf b w.heap.size w o t wr) ∧ Aside0 (Kd.R (Kd.int .i64) 2 wr w1.heap.size (fun k_ => w1.heap.size ≤ k_) (.slice A4 l.length c4) l) ∧ Aside0 (maxL (behindF (raceF k n L d) k n L o t) (l.drop kk) best = some r))
    case atStart => exact ⟨0, -1, Nat.zero_le _, by omega, rfl, rfl, HS4, HO4, ⟨by simpa using HA.out⟩⟩
    case round =>
      obtain ⟨kk, best, hkk, hgg, rfl, rfl, HS, HO, HA2⟩ := hrel
      clear HA HS4 HO4
      have hck : wr.cell? ⟨qk, 0, none⟩ = some (.map (some b)) := blk_cell HS.out.env.known 0
      have hcf : wr.cell? ⟨qf, 0, none⟩ = some (.func (.func 45) #[] #[.pointer (some ⟨qk, 0, none⟩), .pointer (some ⟨qb, 0, none⟩), .pointer (some ⟨qf, 0, none⟩)]) := blk_cell HS.out.env.find 0
      have hcb0 : wr.cell? ⟨qb, 0, none⟩ = some (.int .i64 n) := blk_cell HS.out.env.board 0
      have hcb1 : wr.cell? ⟨qb, 1, none⟩ = some (.slice A L.length c) := blk_cell HS.out.env.board 1
      have hc0 : wr.cell? ⟨w.heap.size, 0, none⟩ = some (.int .i64 o) := blk_cell HS.out.st 0
      have hc1 : wr.cell? ⟨w.heap.size, 1, none⟩ = some (.int .i64 t) := blk_cell HS.out.st 1
      by_cases hlt : kk < l.length
      · have hltz : (kk : Int) < (l.length : Int) := by omega
        obtain ⟨m, hm, HA3⟩ : ∃ m, behindF (raceF k n L d) k n L o t l[kk] = some m ∧ Aside0 (maxL (behindF (raceF k n L d) k n L o t) (l.drop (kk + 1)) (mx best m) = some r) := by
          have h1 := HA2.out
          rw [List.drop_eq_getElem_cons hlt] at h1
          simp only [maxL] at h1
          obtain ⟨m, hm, h2⟩ := Option.bind_eq_some_iff.1 h1
          exact ⟨m, hm, ⟨h2⟩⟩
        have hrd := (Kd.R_reads' HO.out).2.2
        obtain ⟨ad, e, hx⟩ := Kd.at_int hrd kk (by omega) hltz
        have hy : rd l (kk : Int) = l[kk] := by simp [rd, List.getD_eq_getElem?_getD, hlt]
        rw [hy, Int.toNat_natCast] at hx
        generalize l[kk] = y at hx hm
        cases e
        have hcall := behind_calls k n A c L HC.out d HF.out o t y m wr qk qb qf b HS.out.env hm
        clear hm hy hrd HA2 hck
        go_wp2_with (go_at_call 46; refine hcall.mono ?_; rintro e w' ⟨rfl, he', hg'⟩)
        · go_roundg (l.length - (kk + 1))
          case measure => omega
          case rel => exact ⟨kk + 1, m, by omega, by omega, by go_num, rfl, ⟨HS.out.grown he' hg'⟩, ⟨Kd.R_grown HO.out hg' (own_b HBM.out)⟩, ⟨by have h1 := HA3.out; rwa [mx_new h] at h1⟩⟩
        · go_roundg (l.length - (kk + 1))
          case measure => omega
          case rel => exact ⟨kk + 1, best, by omega, by omega, by go_num, rfl, ⟨HS.out.grown he' hg'⟩, ⟨Kd.R_grown HO.out hg' (own_b HBM.out)⟩, ⟨by have h1 := HA3.out; rwa [mx_old h] at h1⟩⟩
      · have hltz : ¬ (kk : Int) < (l.length : Int) := by omega
        have HA4 : Aside0 (r = best) := ⟨by
          have h1 := HA2.out
          rw [List.drop_eq_nil_of_le (by omega)] at h1
          simp only [maxL, Option.some.injEq] at h1
          exact h1.symm⟩
        clear HA2
        have HG2 : Aside0 (goodR k n L (.agg #[.int .i64 o, .int .i64 t]) (.int .i64 best)) := ⟨by rw [← HA4.out]; exact HG.out⟩
        go_wp2_with (at_mapUpdate; refine wpList_mapUpdate_memo _ rfl _ _ _ 68 rfl 46 2 raceLaw Try.underlying68 (goodR k n L) b rfl HS.out.env.memo (goodR_few k n L) _ _ _ rfl rfl HK.out HG2.out ?_; intro w5 hm5 hg5)
        go_ret
        exact ⟨congrArg (fun z => Ending.returned (.int .i64 z)) HA4.out.symm, HS.out.env.grown hg5 hm5, grown_then HS.out.grow hg5⟩
  · obtain ⟨o', t', d', r', e, rfl, hw⟩ := hgood
    obtain ⟨rfl, rfl⟩ : o = o' ∧ t = t' := by
      unfold rcV at e
      injection e with e
      have := congrArg Array.toList e
      simpa using this
    obtain rfl := raceF_one k n L _ _ o t r r' h0 hw
    clear h h0 hw e hl hok hwo hwt hkey hE ih
    go_enter Try.func45, Try.ntmps45
    go_wp2_with fail
    go_ret
    exact ⟨rfl, HS1.out.env, HS1.out.grow⟩
theorem race_at (k : Nat) (n : Int) (A : Option Addr) (c : Nat) (L : List Int) (hc : L.length ≤ c) (d : Nat) : FindR k n A c L d := by
  induction d with
  | zero => intro o t r w qk qb qf b _ h; cases h
  | succ d ih => exact race_step k n A c L hc d ih
theorem allocs4 (w : World) (o0 o1 o2 o3 : Obj) : ((((w.alloc o0).alloc o1).alloc o2).alloc o3).heap[w.heap.size]? = some o0 ∧ ((((w.alloc o0).alloc o1).alloc o2).alloc o3).heap[w.heap.size + 1]? = some o1 ∧
    ((((w.alloc o0).alloc o1).alloc o2).alloc o3).heap[w.heap.size + 2]? = some o2 ∧ ((((w.alloc o0).alloc o1).alloc o2).alloc o3).heap[w.heap.size + 3]? = some o3 ∧ Below w.heap.size w ((((w.alloc o0).alloc o1).alloc o2).alloc o3) := by
  refine ⟨?_, ?_, ?_, ?_, ((((Below.refl _ _).alloc (Nat.le_refl _) _).alloc (by simp <;> omega) _).alloc (by simp <;> omega) _).alloc (by simp <;> omega) _⟩
  · rw [(MapKept.heap_alloc _ _).2 _ (by simp <;> omega), (MapKept.heap_alloc _ _).2 _ (by simp <;> omega), (MapKept.heap_alloc _ _).2 _ (by simp)]
    exact (MapKept.heap_alloc w o0).1
  · rw [(MapKept.heap_alloc _ _).2 _ (by simp <;> omega), (MapKept.heap_alloc _ _).2 _ (by simp <;> omega)]
    simpa using (MapKept.heap_alloc (w.alloc o0) o1).1
  · rw [(MapKept.heap_alloc _ _).2 _ (by simp <;> omega)]
    simpa using (MapKept.heap_alloc ((w.alloc o0).alloc o1) o2).1
  · simpa using (MapKept.heap_alloc (((w.alloc o0).alloc o1).alloc o2) o3).1
theorem Memo.new {P : Program} {q : TypeId} {good : Value → Value → Prop} {w : World} {b : Nat} (h : w.heap[b]? = some (.map #[] 0)) : Memo P q good w b := ⟨#[], 0, h, ⟨by simp, MapKept.stamped_empty 0, by simp⟩, by simp⟩
set_option maxHeartbeats 1000000 in
theorem results_calls (k : Nat) (n : Int) (A : Option Addr) (c : Nat) (L : List Int) (w : World) (hC : Kd.C (Kd.int .i64) w A L.length L) : Calls Try.prog 21 #[.agg #[.int .i64 n, .slice A L.length c]] w fun e w' => ∃ qk qb qf b : Nat, e = .returned (fnR qk qb qf) ∧ EnvR k n A c L qk qb qf b w' ∧ Below w.heap.size w w' ∧ w.heap.size ≤ b := by
  have hmm := @run_makeMap Try.prog
  have hsf : ∀ (W : World) (a : Addr) (m : Mode) (fn : Fn) (f c : Array Value), (store a (.func fn f c) m).run Try.prog W = stored Try.prog W a (.func fn f c) m := fun W a m fn f c => run_store Try.prog W a _ m rfl
  have hu := Try.underlying26
  have HC := Aside0.mk hC
  clear hC
  go_enter Try.func21, Try.ntmps21
  go_wp2
  go_ret
  exact ⟨w.heap.size + 2, w.heap.size, w.heap.size + 3, w.heap.size + 1, rfl, ⟨(allocs4 w _ _ _ _).2.2.1, (allocs4 w _ _ _ _).1, (allocs4 w _ _ _ _).2.2.2.1, Memo.new (allocs4 w _ _ _ _).2.1, ⟨w, Nat.le_succ _, HC.out, fun i hi => (allocs4 w _ _ _ _).2.2.2.2.block i hi⟩⟩, (allocs4 w _ _ _ _).2.2.2.2, Nat.le_succ _⟩
end Go.Proofs.Ytbmkhdeeengbmaa.Q

namespace Go.Proofs.Ytbmkhdeeengbmaa.Q
open Go.RowKit Go.Proofs.YtbmkhdeeengbmaaW.PrintWords Go.Proofs.YtbmkhdeeengbmaaW.PrintLast Go.Proofs.YtbmkhdeeengbmaaW.PrintMore
open Go.Maps (Keyed)

def worseP (k : Nat) (n : Int) (L : List Int) (d : Nat) (o t p : Int) : Option Bool := (behindF (raceF k n L d) k n L o t p).bind fun x => (raceF k n L d o t).bind fun y => some (x != y)
def bestF (k : Nat) (n : Int) (L : List Int) (d : Nat) (o t : Int) : Option (List Int) := (impl_Board_free.f n L o t).bind fun l => delP (worseP k n L d o t) l
theorem bestF_mono (k : Nat) (n : Int) (L : List Int) (d : Nat) (o t : Int) : LeO (bestF k n L d o t) (bestF (k + 1) n L d o t) :=
  LeO.bind (LeO.refl _) (fun l => delP_mono (fun _ => LeO.bind (behindF_mono (raceF_mono n L d k) _ _ _ _ _ _) (fun _ => LeO.bind (raceF_mono n L d k _ _) (fun _ => LeO.refl _))) l)
/-- A board's variable, and its row. -/
def HeldB (w : World) (n : Int) (A : Option Addr) (c : Nat) (L : List Int) (w' : World) : Prop := w'.heap[w.heap.size]? = some (.cells #[.int .i64 n, .slice A L.length c] 26 (0, 0)) ∧ Below w.heap.size w w' ∧ RowAt w.heap.size A L w'
section
variable {w a a' : World} {n : Int} {A : Option Addr} {c : Nat} {L : List Int}
theorem HeldB.cells (h : HeldB w n A c L a) : a.cell? ⟨w.heap.size, 0, none⟩ = some (.int .i64 n) ∧ a.cell? ⟨w.heap.size, 1, none⟩ = some (.slice A L.length c) ∧ Aside0 (HeldB w n A c L a) :=
  ⟨blk_cell h.1 0, blk_cell h.1 1, ⟨h⟩⟩
theorem HeldB.drew (h : HeldB w n A c L a) : HeldB w n A c L a.drew := ⟨h.1, below_drew h.2.1, h.2.2.step (fun _ _ _ => rfl) h.2.1.size⟩
theorem heldB_below (h : Aside0 (HeldB w n A c L a)) (hb : Below a.heap.size a a') : HeldB w n A c L a' := ⟨(hb.block _ (at_block h.out.1)).trans h.out.1, below_then h.out.2.1 h.out.2.1.size hb, h.out.2.2.step (fun i _ hl => hb.block i hl) h.out.2.1.size⟩
theorem heldB_then {q : TypeId} {good : Value → Value → Prop} {b : Nat} (h : Aside0 (HeldB w n A c L a)) (hg : a.grownBy a' (some b)) (hm : Memo Try.prog q good a b) (hb : w.heap.size ≤ b) : HeldB w n A c L a' :=
  ⟨(hg.block _ (at_block h.out.1) (hm.ne h.out.1)).trans h.out.1, h.out.2.1.grown hg h.out.2.1.size (fun k e => by have := Option.some.inj e; omega), h.out.2.2.step (fun i hi hl => hg.block i hl (fun e => by have := Option.some.inj e; omega)) h.out.2.1.size⟩
theorem heldB_b (h : Aside0 (HeldB w n A c L a)) : Below w.heap.size w a := h.out.2.1
theorem heldB_row (h : Aside0 (HeldB w n A c L a)) : Kd.C (Kd.int .i64) a A L.length L := h.out.2.2.reads
end
theorem heldB_new {w w1 : World} {n : Int} {A : Option Addr} {c : Nat} {L : List Int} (hw1 : w.alloc (.cells #[.int .i64 n, .slice A L.length c] 26) = w1) (hC : Kd.C (Kd.int .i64) w A L.length L) : Aside0 (HeldB w n A c L w1) := by
  have hb : Below w.heap.size w w1 := by rw [← hw1]; exact (Below.refl _ _).alloc (Nat.le_refl _) _
  exact ⟨by rw [← hw1]; simpa using heap_alloc_new w (.cells #[.int .i64 n, .slice A L.length c] 26), hb, w, Nat.le_refl _, hC, fun i hi => hb.block i hi⟩
set_option linter.unusedSimpArgs false
set_option maxRecDepth 100000
/-- The predicate's world: the function's variables, the board, the state, and the variable that holds the function. -/
def InvB (k : Nat) (n : Int) (A : Option Addr) (c : Nat) (L : List Int) (qk qb qf b gb gs gq : Nat) (o t : Int) (w : World) : Prop := EnvR k n A c L qk qb qf b w ∧ w.heap[gb]? = some (.cells #[.int .i64 n, .slice A L.length c] 26 (0, 0)) ∧ w.heap[gs]? = some (.cells #[.int .i64 o, .int .i64 t] 46 (0, 0)) ∧
  w.heap[gq]? = some (.cells #[fnR qk qb qf] 43 (0, 0))
section
variable {k : Nat} {n : Int} {A : Option Addr} {c : Nat} {L : List Int} {qk qb qf b gb gs gq : Nat} {o t : Int} {a w w' : World}
theorem InvB.grown (h : InvB k n A c L qk qb qf b gb gs gq o t w) (he : EnvR k n A c L qk qb qf b w') (hg : w.grownBy w' (some b)) : InvB k n A c L qk qb qf b gb gs gq o t w' := ⟨he, blk_grown h.2.1 hg (h.1.memo.ne h.2.1), blk_grown h.2.2.1 hg (h.1.memo.ne h.2.2.1), blk_grown h.2.2.2 hg (h.1.memo.ne h.2.2.2)⟩
theorem InvB.below (h : InvB k n A c L qk qb qf b gb gs gq o t w) (hb : Below w.heap.size w w') : InvB k n A c L qk qb qf b gb gs gq o t w' := ⟨h.1.below hb, blk_below h.2.1 hb, blk_below h.2.2.1 hb, blk_below h.2.2.2 hb⟩
theorem InvB.cells (h : InvB k n A c L qk qb qf b gb gs gq o t w ∧ a.grownBy w (some b)) :
    w.cell? ⟨gq, 0, none⟩ = some (.func (.func 45) #[] #[.pointer (some ⟨qk, 0, none⟩), .pointer (some ⟨qb, 0, none⟩), .pointer (some ⟨qf, 0, none⟩)]) ∧ w.cell? ⟨gb, 0, none⟩ = some (.int .i64 n) ∧ w.cell? ⟨gb, 1, none⟩ = some (.slice A L.length c) ∧ w.cell? ⟨gs, 0, none⟩ = some (.int .i64 o) ∧ w.cell? ⟨gs, 1, none⟩ = some (.int .i64 t) ∧ Aside0 (InvB k n A c L qk qb qf b gb gs gq o t w ∧ a.grownBy w (some b)) :=
  ⟨blk_cell h.1.2.2.2 0, blk_cell h.1.2.1 0, blk_cell h.1.2.1 1, blk_cell h.1.2.2.1 0, blk_cell h.1.2.2.1 1, ⟨h⟩⟩
theorem raceB {d : Nat} {r : Int} (hc : Aside0 (L.length ≤ c)) (hh : Aside0 (InvB k n A c L qk qb qf b gb gs gq o t w ∧ a.grownBy w (some b))) (hw : Aside0 (raceF k n L d o t = some r)) :
    Calls Try.prog 45 #[.agg #[.int .i64 o, .int .i64 t], .pointer (some ⟨qk, 0, none⟩), .pointer (some ⟨qb, 0, none⟩), .pointer (some ⟨qf, 0, none⟩)] w fun e w' => e = .returned (.int .i64 r) ∧ InvB k n A c L qk qb qf b gb gs gq o t w' ∧ a.grownBy w' (some b) :=
  (race_at k n A c L hc.out d o t r w qk qb qf b hh.out.1.1 hw.out).mono (fun _ _ ⟨h1, h2, h3⟩ => ⟨h1, hh.out.1.grown h2 h3, grown_then hh.out.2 h3⟩)
theorem behindB {d : Nat} {x r : Int} (hc : Aside0 (L.length ≤ c)) (hh : Aside0 (InvB k n A c L qk qb qf b gb gs gq o t w ∧ a.grownBy w (some b))) (hw : Aside0 (behindF (raceF k n L d) k n L o t x = some r)) :
    Calls Try.prog 46 #[.agg #[.int .i64 n, .slice A L.length c], .agg #[.int .i64 o, .int .i64 t], .int .i64 x, .func (.func 45) #[] #[.pointer (some ⟨qk, 0, none⟩), .pointer (some ⟨qb, 0, none⟩), .pointer (some ⟨qf, 0, none⟩)]] w fun e w' => e = .returned (.int .i64 r) ∧ InvB k n A c L qk qb qf b gb gs gq o t w' ∧ a.grownBy w' (some b) :=
  (behind_calls k n A c L hc.out d (race_at k n A c L hc.out d) o t x r w qk qb qf b hh.out.1.1 hw.out).mono (fun _ _ ⟨h1, h2, h3⟩ => ⟨h1, hh.out.1.grown h2 h3, grown_then hh.out.2 h3⟩)
end
set_option maxHeartbeats 4000000 in
theorem best_pred (k : Nat) (n : Int) (A : Option Addr) (c : Nat) (L : List Int) (hc : L.length ≤ c) (d : Nat) (qk qb qf b gb gs gq : Nat) (o t : Int) :
    PredInv 51 #[.pointer (some ⟨gb, 0, none⟩), .pointer (some ⟨gs, 0, none⟩), .pointer (some ⟨gq, 0, none⟩)] (worseP k n L d o t) (InvB k n A c L qk qb qf b gb gs gq o t) (some b) := by
  intro x q w h hI
  rw [show (#[Value.int .i64 x] ++ #[Value.pointer (some ⟨gb, 0, none⟩), .pointer (some ⟨gs, 0, none⟩), .pointer (some ⟨gq, 0, none⟩)] : Array Value) = #[.int .i64 x, .pointer (some ⟨gb, 0, none⟩), .pointer (some ⟨gs, 0, none⟩), .pointer (some ⟨gq, 0, none⟩)] from rfl]
  obtain ⟨y, hy, h⟩ := Option.bind_eq_some_iff.1 h
  obtain ⟨z, hz, h⟩ := Option.bind_eq_some_iff.1 h
  obtain rfl := Option.some.inj h
  have HY := Aside0.mk hy
  have HZ := Aside0.mk hz
  have HCAP := Aside0.mk hc
  obtain ⟨hcf, hc0, hc1, hc2, hc3, HI⟩ := InvB.cells (And.intro hI (grown_refl w (some b)))
  have hu := Try.underlying26
  have hu2 := Try.underlying46
  clear hy hz h hI hc
  go_enter Try.func51, Try.ntmps51
  go_wp2_with fail
  go_region_held3 (fun w' => w'.cell? ⟨gq, 0, none⟩ = some (.func (.func 45) #[] #[.pointer (some ⟨qk, 0, none⟩), .pointer (some ⟨qb, 0, none⟩), .pointer (some ⟨qf, 0, none⟩)]) ∧ w'.cell? ⟨gb, 0, none⟩ = some (.int .i64 n) ∧ w'.cell? ⟨gb, 1, none⟩ = some (.slice A L.length c) ∧ w'.cell? ⟨gs, 0, none⟩ = some (.int .i64 o) ∧ w'.cell? ⟨gs, 1, none⟩ = some (.int .i64 t) ∧ Aside0 (InvB k n A c L qk qb qf b gb gs gq o t w' ∧ w.grownBy w' (some b)))
    (first
      | exact InvB.cells ⟨HI.out.1.below (below_drew (Below.refl _ _)), grown_drew HI.out.2⟩
      | exact InvB.cells hh')
    (first | (go_at_call 46; go_split_ands; refine (behindB HCAP (by assumption) HY).mono ?_; rintro e w' ⟨rfl, hh'⟩) | (go_at_call 45; go_split_ands; refine (raceB HCAP (by assumption) HZ).mono ?_; rintro e w' ⟨rfl, hh'⟩))
  go_wp2
  go_ret
  rename_i hH
  exact ⟨rfl, hH.2.2.2.2.2.out.1, hH.2.2.2.2.2.out.2⟩
theorem own_lower {w w1 : World} {base e : Nat} {v : Value} {l : List Int} (h : Kd.R (Kd.int .i64) e w w1.heap.size (fun _ => True) v l) (hb : base ≤ w1.heap.size) : Kd.R (Kd.int .i64) e w base (fun k_ => w1.heap.size ≤ k_) v l :=
  Kd.R_lower (Kd.R_mono (Kd.R_bound h) (fun _ hk => hk.2.1)) hb
/-- A store into a row of its own leaves the predicate's world as it was. -/
theorem invB_own {k : Nat} {n : Int} {A : Option Addr} {c : Nat} {L : List Int} {qk qb qf b gb gs gq : Nat} {o t : Int} {w1 w2 W1 W2 : World} {v : Value} {e : Nat} {l : List Int} (h0 : InvB k n A c L qk qb qf b gb gs gq o t w1) (h : InvB k n A c L qk qb qf b gb gs gq o t W1) (ho : Kd.R (Kd.int .i64) e w2 w1.heap.size (fun _ => True) v l) (hg : W1.grownBy W2 v.ownBlock) : InvB k n A c L qk qb qf b gb gs gq o t W2 := by
  have hne : ∀ i, i < w1.heap.size → some i ≠ v.ownBlock := fun i hi e => by
    have := Kd.R_base ho i e.symm
    omega
  have step : ∀ i o, i < w1.heap.size → W1.heap[i]? = some o → W2.heap[i]? = some o := fun i o hi e => (hg.block i (at_block e) (hne i hi)).trans e
  have hb := h0.1.memo.lt
  exact ⟨⟨step qk _ (at_block h0.1.known) h.1.known, step qb _ (at_block h0.1.board) h.1.board, step qf _ (at_block h0.1.find) h.1.find, h.1.memo.kept hg (hne b hb), h.1.row.step (fun i hi hl => hg.block i hl (hne i (by omega))) (Nat.le_of_lt h.1.memo.lt)⟩, step gb _ (at_block h0.2.1) h.2.1, step gs _ (at_block h0.2.2.1) h.2.2.1, step gq _ (at_block h0.2.2.2) h.2.2.2⟩
theorem allocs3 (w : World) (o0 o1 o2 : Obj) : (((w.alloc o0).alloc o1).alloc o2).heap[w.heap.size]? = some o0 ∧ (((w.alloc o0).alloc o1).alloc o2).heap[w.heap.size + 1]? = some o1 ∧
    (((w.alloc o0).alloc o1).alloc o2).heap[w.heap.size + 2]? = some o2 ∧ Below w.heap.size w (((w.alloc o0).alloc o1).alloc o2) ∧ (((w.alloc o0).alloc o1).alloc o2).heap.size = w.heap.size + 3 := by
  refine ⟨?_, ?_, ?_, (((Below.refl _ _).alloc (Nat.le_refl _) _).alloc (by simp <;> omega) _).alloc (by simp <;> omega) _, by simp⟩
  · rw [(MapKept.heap_alloc _ _).2 _ (by simp <;> omega), (MapKept.heap_alloc _ _).2 _ (by simp)]
    exact (MapKept.heap_alloc w o0).1
  · rw [(MapKept.heap_alloc _ _).2 _ (by simp <;> omega)]
    simpa using (MapKept.heap_alloc (w.alloc o0) o1).1
  · simpa using (MapKept.heap_alloc ((w.alloc o0).alloc o1) o2).1
set_option maxHeartbeats 4000000 in
theorem bestNodes_calls (k : Nat) (n : Int) (A : Option Addr) (c : Nat) (L : List Int) (hc : L.length ≤ c) (d : Nat) (o t : Int) (r : List Int) (w0 w : World) (qk qb qf b : Nat) (hE : EnvR k n A c L qk qb qf b w) (hB : Below w0.heap.size w0 w) (hb : w0.heap.size ≤ b) (h : bestF k n L d o t = some r) :
    Calls Try.prog 26 #[.agg #[.int .i64 n, .slice A L.length c], .agg #[.int .i64 o, .int .i64 t], .func (.func 45) #[] #[.pointer (some ⟨qk, 0, none⟩), .pointer (some ⟨qb, 0, none⟩), .pointer (some ⟨qf, 0, none⟩)]] w
      fun e w' => ∃ v0_ : Value, e = .returned v0_ ∧ Kd.R (Kd.int .i64) 2 w' w0.heap.size (fun k_ => w.heap.size ≤ k_) v0_ r ∧ EnvR k n A c L qk qb qf b w' ∧ w.grownBy w' (some b) := by
  obtain ⟨l, hl, h⟩ := Option.bind_eq_some_iff.1 h
  generalize hw1 : ((w.alloc (.cells #[.int .i64 n, .slice A L.length c] 26)).alloc (.cells #[.int .i64 o, .int .i64 t] 46)).alloc (.cells #[.func (.func 45) #[] #[.pointer (some ⟨qk, 0, none⟩), .pointer (some ⟨qb, 0, none⟩), .pointer (some ⟨qf, 0, none⟩)]] 43) = w1
  obtain ⟨ha0, ha1, ha2, ha3, ha4⟩ := allocs3 w (.cells #[.int .i64 n, .slice A L.length c] 26) (.cells #[.int .i64 o, .int .i64 t] 46) (.cells #[.func (.func 45) #[] #[.pointer (some ⟨qk, 0, none⟩), .pointer (some ⟨qb, 0, none⟩), .pointer (some ⟨qf, 0, none⟩)]] 43)
  rw [hw1] at ha0 ha1 ha2 ha3 ha4
  have HB1 : Aside0 (Below w.heap.size w w1) := ⟨ha3⟩
  have HL1 : Aside0 (w1.heap.size = w.heap.size + 3) := ⟨ha4⟩
  have HI1 : Aside0 (InvB k n A c L qk qb qf b w.heap.size (w.heap.size + 1) (w.heap.size + 2) o t w1) := ⟨hE.below HB1.out, ha0, ha1, ha2⟩
  obtain ⟨hcf, hc0, hc1, hc2, hc3, _⟩ := InvB.cells (And.intro HI1.out (grown_refl w1 (some b)))
  have hu := Try.underlying26
  have hu2 := Try.underlying46
  have HL := Aside0.mk hl
  have HA := Aside0.mk h
  have HE := Aside0.mk hE
  have HB := Aside0.mk hB
  have HLB := Aside0.mk hb
  have HCAP := Aside0.mk hc
  clear h hl hE hB hb hc ha0 ha1 ha2 ha3 ha4
  go_enter Try.func26, Try.ntmps26
  go_wp2_with (first
    | (go_at_call 35; refine (impl_Board_free.calls n A c L o t l _ HI1.out.1.row.reads HCAP.out HL.out).mono ?_; rintro e w2 ⟨v2, rfl, ho2, hb2⟩)
    | (go_at_call 50; refine (deleteFunc_inv 51 _ (enters_of Try.func51 (by kernel_rfl) rfl) (worseP k n L d o t) (InvB k n A c L qk qb qf b w.heap.size (w.heap.size + 1) (w.heap.size + 2) o t) (some b) (fun k_ => w1.heap.size ≤ k_) _ l r w0 w2 (fun W1 W2 hi hg => invB_own HI1.out hi ho2 hg) (HI1.out.below hb2) (best_pred k n A c L HCAP.out d qk qb qf b w.heap.size (w.heap.size + 1) (w.heap.size + 2) o t) (fun k' e => by have := Option.some.inj e; have := HE.out.memo.lt; have := HLB.out; have := HL1.out; have := hb2.size; omega) (below_then HB.out HB.out.size (below_then HB1.out HB1.out.size hb2)) (own_lower ho2 (Nat.le_trans HB.out.size HB1.out.size)) HA.out).mono ?_; rintro e w3 ⟨v3, rfl, ho3, hb3, hk3, hi3⟩))
  go_ret
  refine ⟨_, rfl, Kd.R_mono ho3 (fun k' hk => by have := HL1.out; have := hb2.size; rcases hk with h | h <;> omega), hi3.1, ⟨hb3.os.trans HB.out.os.symm, hb3.tape.trans HB.out.tape.symm, hb3.output.trans HB.out.output.symm, by have := HL1.out; have := hb2.size; have := hk3.1; omega, fun i hi hn => ?_⟩⟩
  have := HL1.out
  have := hb2.size
  rw [hk3.2 i (by omega) (fun c => by rcases c with c | c; omega; exact hn c), hb2.block i (by omega)]
  exact HB1.out.block i hi
end Go.Proofs.Ytbmkhdeeengbmaa.Q
