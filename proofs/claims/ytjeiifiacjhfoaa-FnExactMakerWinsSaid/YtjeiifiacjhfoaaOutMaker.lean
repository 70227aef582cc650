/-
  MakerWins: its function 'wins' tells who wins, whatever has been stored before, as long as what is stored is right. As far as 'makerF' goes. And MakerWins: the code, or that.
-/
import Derived.Test.YtjeiifiacjhfoaaMakerCode
import Derived.Test.YtjeiifiacjhfoaaHof
import Derived.DeepKeys4
import Derived.Test.YtjeiifiacjhfoaaQ2
import Derived.Test.YtjeiifiacjhfoaaQ5
namespace Go.Proofs.Ytjeiifiacjhfoaa.Q
open Go.RowKit Go.Proofs.YtjeiifiacjhfoaaW.PrintWords Go.Proofs.YtjeiifiacjhfoaaW.PrintLast Go.Proofs.YtjeiifiacjhfoaaW.PrintMore
open Go.Maps (Keyed)

theorem laidMap2 : laidOutB Try.prog = true := by kernel_rfl
theorem makLaw : Keyed Try.prog 77 := Keyed.of_law (deep_law_laid laidMap2 (m := 5) (by decide) (of_decide_eq_true (by kernel_rfl)) (by kernel_rfl) (by kernel_rfl))
def mkV (m b : Int) : Value := .agg #[.int .i64 m, .int .i64 b]
theorem mak_key (m b : Int) (h0 : (Lit.int .i64 m).wf = true) (h1 : (Lit.int .i64 b).wf = true) : ∃ l, keyOf Try.prog 77 (mkV m b) = some l := by
  have e : keyOf Try.prog 77 (mkV m b) = (Try.prog.keyLits (Try.prog.types.size + 1) 77 [.int .i64 m, .int .i64 b]).map fun ls => .string (keyBytes ls) := by kernel_rfl
  have hz : Try.prog.types.size + 1 = (Try.prog.types.size - 1) + 2 := by
    have : 1 ≤ Try.prog.types.size := of_decide_eq_true (by kernel_rfl)
    omega
  rw [e, hz]
  generalize Try.prog.types.size - 1 = n
  have c1 : Try.prog.cellsOf 77 = 2 := by kernel_rfl
  have c3 : Try.prog.cellsOf 2 = 1 := by kernel_rfl
  simp [Program.keyLits, Try.underlying77, Try.underlying2, c1, c3]
  rw [show List.range 2 = [0, 1] from rfl]
  simp [h0, h1]
theorem pw_eq (l : List MapEntry) : l.Pairwise (fun x y => ¬ x.key = y.key) → ∀ x ∈ l, ∀ y ∈ l, x.key = y.key → x = y := by
  induction l with
  | nil => intro _ x hx; cases hx
  | cons a l ih =>
    intro hp x hx y hy e
    rw [List.pairwise_cons] at hp
    rcases List.mem_cons.1 hx with rfl | hx2
    · rcases List.mem_cons.1 hy with rfl | hy2
      · rfl
      · exact absurd e (hp.1 y hy2)
    · rcases List.mem_cons.1 hy with rfl | hy2
      · exact absurd e.symm (hp.1 x hx2)
      · exact ih hp.2 x hx2 y hy2 e
/-- What a look-up tells is told in every world that has the store as it is. -/
theorem Memo.lookAll {P : Program} {k : TypeId} {good : Value → Value → Prop} {w : World} {b : Nat} {t e : TypeId} (h : Memo P k good w b) (K : Keyed P k) (ht : P.underlying t = some (.map k e)) {z : Value} (hz : ∀ W, (zeroValue e).run P W = .ok z W) {key : Value} {kl : Lit} (hkey : keyOf P k key = some kl) :
    (∀ W : World, W.heap[b]? = w.heap[b]? → (Instr.lookup t (.map (some b)) key true).run P W = .ok (.tuple #[z, .bool false]) W) ∨ ∃ v, good key v ∧ ∀ W : World, W.heap[b]? = w.heap[b]? → (Instr.lookup t (.map (some b)) key true).run P W = .ok (.tuple #[v, .bool true]) W := by
  obtain ⟨es, clock, hb, F, hg⟩ := h
  have hn := ((MapKept.stamped_iff es clock).1 F.stamped).2.2
  rcases Maps.fit_look true K ht (hz w) hb F hkey with ⟨_, hno, _⟩ | ⟨e0, y, he, hk, _, _⟩
  · refine Or.inl (fun W e => ?_)
    rcases Maps.fit_look true K ht (hz W) (e.trans hb) F hkey with ⟨hrun, _⟩ | ⟨e1, y1, he1, hk1, _⟩
    · exact hrun
    · exact absurd hk1 (hno e1 he1)
  · refine Or.inr ⟨e0.val, hk ▸ hg e0 he, fun W e => ?_⟩
    rcases Maps.fit_look true K ht (hz W) (e.trans hb) F hkey with ⟨_, hno, _⟩ | ⟨e1, y1, he1, hk1, hrun, _⟩
    · exact absurd hk (hno e0 he)
    · obtain rfl := pw_eq es.toList hn e1 he1 e0 he (hk1.trans hk.symm)
      exact hrun
/-- What the store of MakerWins holds: right answers alone. -/
def goodM (k : Nat) (n : Int) (L : List Int) (key v : Value) : Prop := ∃ (m b : Int) (d : Nat) (r : Bool), key = mkV m b ∧ v = .bool r ∧ makerF k n L d m b = some r
def codeM (v : Value) : Nat := match v with
  | .agg cs => (intOf (cs.getD 0 undef)).toNat * 65536 + (intOf (cs.getD 1 undef)).toNat
  | _ => 0
theorem codeM_mk (m b : Int) : codeM (mkV m b) = m.toNat * 65536 + b.toNat := rfl
theorem goodM_few (k : Nat) (n : Int) (L : List Int) : Few (goodM k n L) := by
  refine ⟨codeM, 65536 * 65536, by decide, ?_, ?_⟩
  · rintro _ _ ⟨m, b, d, r, rfl, rfl, h⟩
    obtain ⟨h0, h1, h2, h3⟩ := makerF_ok k n L d m b r h
    rw [codeM_mk]
    omega
  · rintro _ _ _ _ ⟨m, b, d, r, rfl, rfl, h⟩ ⟨m', b', d', r', rfl, rfl, h'⟩ e
    obtain ⟨h0, h1, h2, h3⟩ := makerF_ok k n L d m b r h
    obtain ⟨k0, k1, k2, k3⟩ := makerF_ok k n L d' m' b' r' h'
    rw [codeM_mk, codeM_mk] at e
    obtain rfl : m = m' := by omega
    obtain rfl : b = b' := by omega
    rfl
/-- A row that came in before a block was made. -/
def RowAtM (b : Nat) (A : Option Addr) (L : List Int) (w : World) : Prop := ∃ w0 : World, w0.heap.size ≤ b ∧ Kd.C (Kd.int .i64) w0 A L.length L ∧ ∀ i, i < w0.heap.size → w.heap[i]? = w0.heap[i]?
section
variable {b : Nat} {A : Option Addr} {L : List Int} {w w' : World}
theorem RowAtM.reads (h : RowAtM b A L w) : Kd.C (Kd.int .i64) w A L.length L := by
  obtain ⟨w0, _, hc, hk⟩ := h
  exact (Kd.heap_int .i64).C hk hc
theorem RowAtM.step (h : RowAtM b A L w) (hs : ∀ i, i < b → i < w.heap.size → w'.heap[i]? = w.heap[i]?) (hl : b ≤ w.heap.size) : RowAtM b A L w' := by
  obtain ⟨w0, hb, hc, hk⟩ := h
  exact ⟨w0, hb, hc, fun i hi => (hs i (by omega) (by omega)).trans (hk i hi)⟩
end
theorem at_blockM {w : World} {i : Nat} {o : Obj} (h : w.heap[i]? = some o) : i < w.heap.size := (Array.getElem?_eq_some_iff.1 h).1
theorem Memo.neM {P : Program} {q : TypeId} {good : Value → Value → Prop} {w : World} {b i : Nat} {cs : Array Value} {t : TypeId} {f : Nat × Nat} (h : Memo P q good w b) (hi : w.heap[i]? = some (.cells cs t f)) : some i ≠ some b := by
  obtain ⟨es, clock, hb, _⟩ := h
  intro e
  obtain rfl := Option.some.inj e
  rw [hb] at hi
  cases hi
/-- The function's value. -/
def fnM (qb qk qf : Nat) : Value := .func (.func 75) #[] #[.pointer (some ⟨qb, 0, none⟩), .pointer (some ⟨qk, 0, none⟩), .pointer (some ⟨qf, 0, none⟩)]
/-- The variables that the function captures, and its store. -/
structure EnvM (k : Nat) (n : Int) (A : Option Addr) (c : Nat) (L : List Int) (qb qk qf g : Nat) (w : World) : Prop where
  board : w.heap[qb]? = some (.cells #[.int .i64 n, .slice A L.length c] 27 (0, 0))
  known : w.heap[qk]? = some (.cells #[.map (some g)] 76 (0, 0))
  find : w.heap[qf]? = some (.cells #[.func (.func 75) #[] #[.pointer (some ⟨qb, 0, none⟩), .pointer (some ⟨qk, 0, none⟩), .pointer (some ⟨qf, 0, none⟩)]] 61 (0, 0))
  memo : Memo Try.prog 77 (goodM k n L) w g
  row : RowAtM g A L w
section
variable {k : Nat} {n : Int} {A : Option Addr} {c : Nat} {L : List Int} {qb qk qf g : Nat} {w w' : World}
theorem EnvM.grown (h : EnvM k n A c L qb qk qf g w) (hg : w.grownBy w' (some g)) (hm : Memo Try.prog 77 (goodM k n L) w' g) : EnvM k n A c L qb qk qf g w' :=
  ⟨blk_grown h.board hg (h.memo.neM h.board), blk_grown h.known hg (h.memo.neM h.known), blk_grown h.find hg (h.memo.neM h.find), hm, h.row.step (fun i hi hl => hg.block i hl (fun e => by have := Option.some.inj e; omega)) (Nat.le_of_lt h.memo.lt)⟩
theorem EnvM.below (h : EnvM k n A c L qb qk qf g w) (hb : Below w.heap.size w w') : EnvM k n A c L qb qk qf g w' :=
  ⟨blk_below h.board hb, blk_below h.known hb, blk_below h.find hb, h.memo.below hb, h.row.step (fun i _ hl => hb.block i hl) (Nat.le_of_lt h.memo.lt)⟩
end
/-- The function's contract at a depth. -/
def FindM (k : Nat) (n : Int) (A : Option Addr) (c : Nat) (L : List Int) (d : Nat) : Prop := ∀ (m b : Int) (r : Bool) (w : World) (qb qk qf g : Nat), EnvM k n A c L qb qk qf g w → makerF k n L d m b = some r →
  Calls Try.prog 75 #[.int .i64 m, .int .i64 b, .pointer (some ⟨qb, 0, none⟩), .pointer (some ⟨qk, 0, none⟩), .pointer (some ⟨qf, 0, none⟩)] w fun e w' => e = .returned (.bool r) ∧ EnvM k n A c L qb qk qf g w' ∧ w.grownBy w' (some g)
/-- The world of a call: the function's variables, and the variables of both sets. -/
structure InvM (k : Nat) (n : Int) (A : Option Addr) (c : Nat) (L : List Int) (qb qk qf g gm gb : Nat) (w0 : World) (m b : Int) (w : World) : Prop where
  env : EnvM k n A c L qb qk qf g w
  mak : w.heap[gm]? = some (.cells #[.int .i64 m] 2 (0, 0))
  br : w.heap[gb]? = some (.cells #[.int .i64 b] 2 (0, 0))
  grow : w0.grownBy w (some g)
section
variable {k : Nat} {n : Int} {A : Option Addr} {c : Nat} {L : List Int} {qb qk qf g gm gb : Nat} {w0 w w' : World} {m b : Int}
theorem InvM.below (h : InvM k n A c L qb qk qf g gm gb w0 m b w) (hb : Below w.heap.size w w') : InvM k n A c L qb qk qf g gm gb w0 m b w' := ⟨h.env.below hb, blk_below h.mak hb, blk_below h.br hb, grown_then h.grow (grown_below hb)⟩
theorem InvM.grown (h : InvM k n A c L qb qk qf g gm gb w0 m b w) (he : EnvM k n A c L qb qk qf g w') (hg : w.grownBy w' (some g)) : InvM k n A c L qb qk qf g gm gb w0 m b w' := ⟨he, blk_grown h.mak hg (h.env.memo.neM h.mak), blk_grown h.br hg (h.env.memo.neM h.br), grown_then h.grow hg⟩
theorem InvM.cells (h : InvM k n A c L qb qk qf g gm gb w0 m b w) :
    w.cell? ⟨qf, 0, none⟩ = some (.func (.func 75) #[] #[.pointer (some ⟨qb, 0, none⟩), .pointer (some ⟨qk, 0, none⟩), .pointer (some ⟨qf, 0, none⟩)]) ∧ w.cell? ⟨gm, 0, none⟩ = some (.int .i64 m) ∧ w.cell? ⟨gb, 0, none⟩ = some (.int .i64 b) ∧ Aside0 (InvM k n A c L qb qk qf g gm gb w0 m b w) :=
  ⟨blk_cell h.env.find 0, blk_cell h.mak 0, blk_cell h.br 0, ⟨h⟩⟩
theorem invM_find {d : Nat} {m2 b2 : Int} {r : Bool} (hF : Aside0 (FindM k n A c L d)) (hh : Aside0 (InvM k n A c L qb qk qf g gm gb w0 m b w)) (hw : Aside0 (makerF k n L d m2 b2 = some r)) :
    Calls Try.prog 75 #[.int .i64 m2, .int .i64 b2, .pointer (some ⟨qb, 0, none⟩), .pointer (some ⟨qk, 0, none⟩), .pointer (some ⟨qf, 0, none⟩)] w fun e w' => e = .returned (.bool r) ∧ InvM k n A c L qb qk qf g gm gb w0 m b w' :=
  (hF.out m2 b2 r w qb qk qf g hh.out.env hw.out).mono (fun _ _ ⟨h1, h2, h3⟩ => ⟨h1, hh.out.grown h2 h3⟩)
end
set_option linter.unusedSimpArgs false
set_option maxRecDepth 100000
set_option maxHeartbeats 4000000 in
theorem make_pred (k : Nat) (n : Int) (A : Option Addr) (c : Nat) (L : List Int) (d : Nat) (ih : FindM k n A c L d) (qb qk qf g gm gb : Nat) (w0 : World) (m b : Int) (x : Int) (r : Bool) (w : World) (h : makeP (makerF k n L d) m b x = some r) (hI : InvM k n A c L qb qk qf g gm gb w0 m b w) :
    Calls Try.prog 77 #[.int .i64 x, .pointer (some ⟨qf, 0, none⟩), .pointer (some ⟨gm, 0, none⟩), .pointer (some ⟨gb, 0, none⟩)] w fun e w' => e = .returned (.bool r) ∧ InvM k n A c L qb qk qf g gm gb w0 m b w' := by
  unfold makeP at h
  split at h
  rotate_left
  · cases h
  rename_i hp
  have HQ := Aside0.mk h
  have HF := Aside0.mk ih
  have HI := Aside0.mk hI
  obtain ⟨hcf, hc0, hc1, _⟩ := HI.out.cells
  generalize hm : withN m x = m2 at HQ
  unfold withN at hm
  generalize hj : shl .i64 1 x = j at hm
  have hji8_ : (IntKind.i64.wrap (1 * 2 ^ min x.toNat 64)) = j := hj
  have hji8z : x ≤ 64 → (IntKind.i64.wrap (1 * 2 ^ x.toNat)) = j := shl_small hj
  have hji8u : (IntKind.i64.wrap (2 ^ min x.toNat 64)) = j := by have h_ := hji8_; rw [Int.one_mul] at h_; exact h_
  have hji8v : x ≤ 64 → (IntKind.i64.wrap (2 ^ x.toNat)) = j := fun hle_ => by have h_ := hji8z hle_; rw [Int.one_mul] at h_; exact h_
  have hji8y : (wrap64 (1 * 2 ^ min x.toNat 64)) = j := (i64_w _).symm.trans hji8_
  have hji8x : x ≤ 64 → (wrap64 (1 * 2 ^ x.toNat)) = j := fun h_ => (i64_w _).symm.trans (hji8z h_)
  clear h hI ih
  go_enter Try.func77, Try.ntmps77
  go_wp2_with fail
  go_region_held3 (fun w' => w'.cell? ⟨qf, 0, none⟩ = some (.func (.func 75) #[] #[.pointer (some ⟨qb, 0, none⟩), .pointer (some ⟨qk, 0, none⟩), .pointer (some ⟨qf, 0, none⟩)]) ∧ w'.cell? ⟨gm, 0, none⟩ = some (.int .i64 m) ∧ w'.cell? ⟨gb, 0, none⟩ = some (.int .i64 b) ∧ Aside0 (InvM k n A c L qb qk qf g gm gb w0 m b w'))
    (first
      | exact (HI.out.below (below_drew (Below.refl _ _))).cells
      | exact InvM.cells hh')
    (first | (go_at_call 75; go_split_ands; refine (invM_find HF (by assumption) HQ).mono ?_; rintro e w' ⟨rfl, hh'⟩))
  go_wp2
  go_ret
  rename_i hH
  exact ⟨rfl, hH.2.2.2.out⟩
set_option maxHeartbeats 4000000 in
theorem break_pred (k : Nat) (n : Int) (A : Option Addr) (c : Nat) (L : List Int) (d : Nat) (ih : FindM k n A c L d) (qb qk qf g gm gb : Nat) (w0 : World) (m b : Int) (x : Int) (r : Bool) (w : World) (h : breakP (makerF k n L d) m b x = some r) (hI : InvM k n A c L qb qk qf g gm gb w0 m b w) :
    Calls Try.prog 78 #[.int .i64 x, .pointer (some ⟨qf, 0, none⟩), .pointer (some ⟨gm, 0, none⟩), .pointer (some ⟨gb, 0, none⟩)] w fun e w' => e = .returned (.bool r) ∧ InvM k n A c L qb qk qf g gm gb w0 m b w' := by
  unfold breakP at h
  split at h
  rotate_left
  · cases h
  rename_i hp
  obtain ⟨z, hz, h⟩ := Option.bind_eq_some_iff.1 h
  obtain rfl := Option.some.inj h
  have HQ := Aside0.mk hz
  have HF := Aside0.mk ih
  have HI := Aside0.mk hI
  obtain ⟨hcf, hc0, hc1, _⟩ := HI.out.cells
  generalize hm : withN b x = b2 at HQ
  unfold withN at hm
  generalize hj : shl .i64 1 x = j at hm
  have hji8_ : (IntKind.i64.wrap (1 * 2 ^ min x.toNat 64)) = j := hj
  have hji8z : x ≤ 64 → (IntKind.i64.wrap (1 * 2 ^ x.toNat)) = j := shl_small hj
  have hji8u : (IntKind.i64.wrap (2 ^ min x.toNat 64)) = j := by have h_ := hji8_; rw [Int.one_mul] at h_; exact h_
  have hji8v : x ≤ 64 → (IntKind.i64.wrap (2 ^ x.toNat)) = j := fun hle_ => by have h_ := hji8z hle_; rw [Int.one_mul] at h_; exact h_
  have hji8y : (wrap64 (1 * 2 ^ min x.toNat 64)) = j := (i64_w _).symm.trans hji8_
  have hji8x : x ≤ 64 → (wrap64 (1 * 2 ^ x.toNat)) = j := fun h_ => (i64_w _).symm.trans (hji8z h_)
  clear h hI ih hz
  go_enter Try.func78, Try.ntmps78
  go_wp2_with fail
  go_region_held3 (fun w' => w'.cell? ⟨qf, 0, none⟩ = some (.func (.func 75) #[] #[.pointer (some ⟨qb, 0, none⟩), .pointer (some ⟨qk, 0, none⟩), .pointer (some ⟨qf, 0, none⟩)]) ∧ w'.cell? ⟨gm, 0, none⟩ = some (.int .i64 m) ∧ w'.cell? ⟨gb, 0, none⟩ = some (.int .i64 b) ∧ Aside0 (InvM k n A c L qb qk qf g gm gb w0 m b w'))
    (first
      | exact (HI.out.below (below_drew (Below.refl _ _))).cells
      | exact InvM.cells hh')
    (first | (go_at_call 75; go_split_ands; refine (invM_find HF (by assumption) HQ).mono ?_; rintro e w' ⟨rfl, hh'⟩))
  go_wp2
  go_ret
  rename_i hH
  exact ⟨rfl, hH.2.2.2.out⟩
end Go.Proofs.Ytjeiifiacjhfoaa.Q
