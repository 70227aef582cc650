/-
  impl.ParseField, told as the printed functions are: the first part's letters as colours, the other parts' as lines, and the text of what comes out. Texts below 4,294,967,281 bytes.
-/
import Derived.Test.YtlmohkbimnhecaaGreatDoorSplitOne
import Derived.Laws.RangeAny
import Derived.Test.YtlmohkbimnhecaaGreatDoorQ8
import Derived.Test.YtlmohkbimnhecaaGreatDoorQ2
import Derived.Test.YtlmohkbimnhecaaGreatDoorQ4
namespace Go.Proofs.YtlmohkbimnhecaaGreatDoor.Q
open Go.RowKit Go.Proofs.YtlmohkbimnhecaaGreatDoorW.PrintWords Go.Proofs.YtlmohkbimnhecaaGreatDoorW.PrintLast Go.Proofs.YtlmohkbimnhecaaGreatDoorW.PrintMore
set_option linter.unusedVariables false

/-- The letter at a place, and how wide it is. -/
def runeI (s : ByteArray) (pos : Nat) : Int := ((Utf8.decode s pos).1 : Nat)
def wideI (s : ByteArray) (pos : Nat) : Nat := (Utf8.decode s pos).2
theorem wide_pos (s : ByteArray) (pos : Nat) (h : pos < s.size) : 1 ≤ wideI s pos := by
  unfold wideI
  by_cases ha : (s[pos]'h).toNat < 128
  · rw [decode_ascii s pos h ha]
    exact Nat.le_refl _
  · exact (decode_high s pos h (by omega)).2
/-- The letters at the places i of a text, as digits of a set: those that are c. -/
def setsF (s : ByteArray) (c : Int) (top : Nat) : Nat → Nat → Int → Int
  | 0, _, x => x
  | d + 1, pos, x => if pos < s.size then setsF s c top d (pos + wideI s pos) (if pos < top then Go.bits .or .i64 x (wrap64 ((if runeI s pos = c then 1 else 0) * 2 ^ pos)) else x) else x
def impl_ParseField.f (k : Nat) (s : ByteArray) : Option (Int × Int × Int × Int × Int) :=
  if s.size ≤ 1048576 then
    if 1 ≤ ((partsS 44 s).headD ⟨#[]⟩).size ∧ ((partsS 44 s).headD ⟨#[]⟩).size ≤ 8 then
      (strings_Join.f ((partsS 44 s).drop 1) ⟨#[]⟩).bind fun t =>
        (impl_FieldText.f k (((partsS 44 s).headD ⟨#[]⟩).size : Int) (setsF t 49 64 t.size 0 0) (setsF ((partsS 44 s).headD ⟨#[]⟩) 114 64 ((partsS 44 s).headD ⟨#[]⟩).size 0 0) (setsF ((partsS 44 s).headD ⟨#[]⟩) 98 64 ((partsS 44 s).headD ⟨#[]⟩).size 0 0)).bind fun z =>
          if z.2 = 0 ∧ z.1.toList = s.toList then some (((partsS 44 s).headD ⟨#[]⟩).size, setsF t 49 64 t.size 0 0, setsF ((partsS 44 s).headD ⟨#[]⟩) 114 64 ((partsS 44 s).headD ⟨#[]⟩).size 0 0, setsF ((partsS 44 s).headD ⟨#[]⟩) 98 64 ((partsS 44 s).headD ⟨#[]⟩).size 0 0, 0) else some (0, 0, 0, 0, 6)
    else some (0, 0, 0, 0, 6)
  else none
theorem impl_ParseField.mono : ∀ a0 k, LeO (impl_ParseField.f k a0) (impl_ParseField.f (k + 1) a0) := by
  intro a0 k
  unfold impl_ParseField.f
  exact LeO.ite (LeO.ite (LeO.bind (LeO.refl _) (fun t => LeO.bind (impl_FieldText.mono _ _ _ _ _) (fun z => LeO.refl _))) (LeO.refl _)) (LeO.refl _)
theorem bit_eq (x c : Int) : impl_bit.f (x == c) = some (if x = c then 1 else 0) := by
  unfold impl_bit.f
  by_cases h : x = c
  · rw [if_pos h, if_pos (beq_iff_eq.mpr h)]
  · rw [if_neg h, if_neg (by simpa using h)]
/-- The step of 'range' over a text, wherever its place is kept. -/
theorem next_text {P : Program} {w : World} {it : Nat} {s : ByteArray} {pos : Nat} (h : w.heap[it]? = some (.stringIter s pos)) (hp : pos < s.size) :
    ∃ w', (∀ ty, (Instr.next (.pointer (some ⟨it, 0, none⟩)) true ty).run P w = .ok (.tuple #[.bool true, .int .i64 pos, .int .i32 (runeI s pos)]) w') ∧ w'.heap[it]? = some (.stringIter s (pos + wideI s pos)) ∧ w.grownBy w' (some it) := by
  have hlt : it < w.heap.size := (Array.getElem?_eq_some_iff.1 h).1
  refine ⟨{ w with heap := w.heap.setIfInBounds it (.stringIter s (pos + wideI s pos)) }, fun ty => ?_, ?_, ⟨rfl, rfl, rfl, by simp, fun i hi hne => ?_⟩⟩
  · simp [Instr.next, getObj, setObj, Sem.run_bind, Sem.run, h, Result.andThen, hp, goInt, runeI, wideI]
  · simp [hlt]
  · have : it ≠ i := fun e => hne (by rw [e])
    simp [Array.getElem?_setIfInBounds_ne, this]
theorem next_over {P : Program} {w : World} {it : Nat} {s : ByteArray} {pos : Nat} (h : w.heap[it]? = some (.stringIter s pos)) (hp : ¬ pos < s.size) (ty : TypeId) :
    (Instr.next (.pointer (some ⟨it, 0, none⟩)) true ty).run P w = .ok (.tuple #[.bool false]) w := by
  simp [Instr.next, getObj, Sem.run, h, hp]
theorem head_size {c : UInt8} {s p0 : ByteArray} {qs : List ByteArray} (h : p0 :: qs = partsS c s) : p0.size ≤ s.size := by
  unfold partsS at h
  cases hk : Lib.countB s ⟨#[c]⟩ with
  | zero =>
    rw [hk, Lib.splitB] at h
    rw [(List.cons.inj h).1]
    exact Nat.le_refl _
  | succ k =>
    rw [hk, Lib.splitB] at h
    split at h
    · rw [(List.cons.inj h).1]
      exact Nat.le_refl _
    · rw [(List.cons.inj h).1, ByteArray.size_extract]
      omega
theorem head_at {w : World} {ad : Addr} {n : Nat} {p0 : ByteArray} {qs : List ByteArray} (h : Kd.C Kd.string w (some ad) n (p0 :: qs)) (hn : 0 < n) : w.cell? ad = some (.string p0) := by
  obtain ⟨ad2, e2, hx2⟩ := Kd.at_string h 0 (by omega) (by omega)
  rw [← Option.some.inj e2] at hx2
  have e3 : ad.add (0 : Int).toNat = ad := by simp [Addr.add]
  rw [e3] at hx2
  exact hx2
theorem size_bytes (s : ByteArray) (w : World) (hs : s.size ≤ 9223372036854775807) :
    Calls Tryz.prog 55 #[.slice (some ⟨w.heap.size, 0, none⟩) s.size (grownCap w s.size 0 5)] (Lib.bytesWorld w 5 s) fun e w' => e = .returned (.int .i64 s.size) ∧ Below w.heap.size w w' := by
  have h := Kd.C_of_reads (d := (0 : Int)) (h1 := fun _ => rfl) (bytes_reads w 5 s hs)
  have hl := bytesOf_length s
  generalize bytesOf s = l at h hl
  rw [← hl] at h ⊢
  refine (impl_size_byte.calls _ _ l _ _ h (grownCap_ge _ _ _ _) rfl).mono ?_
  rintro e w' ⟨rfl, hd⟩
  have hb := bytes_below (Below.refl w.heap.size w) (Nat.le_refl _) 5 s
  exact ⟨rfl, below_step hb hd.below⟩
/-- Behind the parts: the field that is put together. -/
structure ParS (ws : World) (g1 : Nat) (n L R B : Int) (w : World) : Prop where
  f : w.heap[g1]? = some (.cells #[.int .i64 n, .int .i64 L, .int .i64 R, .int .i64 B] 25 (0, 0))
  below : Below ws.heap.size ws w
  ge : ws.heap.size ≤ g1
section
variable {ws w w' : World} {g1 : Nat} {n L R B : Int}
theorem ParS.step (h : Aside0 (ParS ws g1 n L R B w)) (hb : Below w.heap.size w w') : Aside0 (ParS ws g1 n L R B w') := ⟨blk_below h.out.f hb, below_then h.out.below h.out.below.size hb, h.out.ge⟩
theorem ParS.kept {it : Nat} (h : Aside0 (ParS ws g1 n L R B w)) (hg : w.grownBy w' (some it)) (hn : g1 ≠ it) (hge : ws.heap.size ≤ it) : Aside0 (ParS ws g1 n L R B w') :=
  ⟨blk_grown h.out.f hg (fun e => hn (Option.some.inj e)), ⟨hg.os.trans h.out.below.os, hg.tape.trans h.out.below.tape, hg.output.trans h.out.below.output, Nat.le_trans h.out.below.size hg.size, fun k hk => (hg.block k (Nat.lt_of_lt_of_le hk h.out.below.size) (by intro e; injection e with e; omega)).trans (h.out.below.block k hk)⟩, h.out.ge⟩
theorem ParS.cells (h : Aside0 (ParS ws g1 n L R B w)) : w.cell? ⟨g1, 0, none⟩ = some (.int .i64 n) ∧ w.cell? ⟨g1, 1, none⟩ = some (.int .i64 L) ∧ w.cell? ⟨g1, 2, none⟩ = some (.int .i64 R) ∧ w.cell? ⟨g1, 3, none⟩ = some (.int .i64 B) :=
  ⟨blk_cell h.out.f 0, blk_cell h.out.f 1, blk_cell h.out.f 2, blk_cell h.out.f 3⟩
theorem ParS.red (h : Aside0 (ParS ws g1 n L R B w)) (x : Int) : Aside0 (ParS ws g1 n L x B (w.setCell ⟨g1, 2, none⟩ (.int .i64 x))) := ⟨by simpa using blk_set h.out.f 2 (.int .i64 x), below_set h.out.below h.out.ge, h.out.ge⟩
theorem ParS.blue (h : Aside0 (ParS ws g1 n L R B w)) (x : Int) : Aside0 (ParS ws g1 n L R x (w.setCell ⟨g1, 3, none⟩ (.int .i64 x))) := ⟨by simpa using blk_set h.out.f 3 (.int .i64 x), below_set h.out.below h.out.ge, h.out.ge⟩
theorem ParS.lines (h : Aside0 (ParS ws g1 n L R B w)) (x : Int) : Aside0 (ParS ws g1 n x R B (w.setCell ⟨g1, 1, none⟩ (.int .i64 x))) := ⟨by simpa using blk_set h.out.f 1 (.int .i64 x), below_set h.out.below h.out.ge, h.out.ge⟩
end
def par8T : Bool × List (List Nat × List Nat) := (true, [([], []), ([0], [0]), ([], []), ([2], [2]), ([3], [3]), ([], []), ([4, 5], [4, 5]), ([1, 6], [1, 6]), ([0, 1, 2, 3, 4, 5, 6, 7], []), ([8, 7, 4, 0, 1, 2, 3, 4, 5, 6, 7], [7, 8])])
def par8B : List Nat := [0, 1, 0, 4, 12, 0, 60, 127, 255, 511]
theorem par8_tab : rtab .any (opsOf Tryz.f15 8) = par8T := by kernel_rfl
theorem par8_bits : waitsOk par8T.2 par8B = true := by kernel_rfl
def par9T : Bool × List (List Nat × List Nat) := (true, [([], []), ([0], [0]), ([], []), ([2], [2]), ([3], [3]), ([], []), ([4, 5], [4, 5]), ([1, 6], [1, 6]), ([0, 1, 2, 3, 4, 5, 6, 7], []), ([8, 7, 4, 0, 1, 2, 3, 4, 5, 6, 7], [7, 8])])
def par9B : List Nat := [0, 1, 0, 4, 12, 0, 60, 127, 255, 511]
theorem par9_tab : rtab .any (opsOf Tryz.f15 9) = par9T := by kernel_rfl
theorem par9_bits : waitsOk par9T.2 par9B = true := by kernel_rfl
def par14T : Bool × List (List Nat × List Nat) := (true, [([], []), ([0], [0]), ([], []), ([2], [2]), ([3], [3]), ([], []), ([4, 5], [4, 5]), ([1, 6], [1, 6]), ([0, 1, 2, 3, 4, 5, 6, 7], []), ([8, 7, 4, 0, 1, 2, 3, 4, 5, 6, 7], [7, 8])])
def par14B : List Nat := [0, 1, 0, 4, 12, 0, 60, 127, 255, 511]
theorem par14_tab : rtab .any (opsOf Tryz.f15 14) = par14T := by kernel_rfl
theorem par14_bits : waitsOk par14T.2 par14B = true := by kernel_rfl
/-- A field put into a variable. -/
theorem four_blk {w : World} {g : Nat} {c0 c1 c2 c3 : Value} (h : w.heap[g]? = some (.cells #[c0, c1, c2, c3] 25 (0, 0))) (a b c d : Value) :
    ((((w.setCell ⟨g, 0, none⟩ a).setCell ⟨g, 1, none⟩ b).setCell ⟨g, 2, none⟩ c).setCell ⟨g, 3, none⟩ d).heap[g]? = some (.cells #[a, b, c, d] 25 (0, 0)) := by
  simpa using blk_set (blk_set (blk_set (blk_set h 0 a) 1 b) 2 c) 3 d
theorem four_below {w0 w : World} {g : Nat} (h : Below w0.heap.size w0 w) (hg : w0.heap.size ≤ g) (a b c d : Value) :
    Below w0.heap.size w0 ((((w.setCell ⟨g, 0, none⟩ a).setCell ⟨g, 1, none⟩ b).setCell ⟨g, 2, none⟩ c).setCell ⟨g, 3, none⟩ d) := below_set (below_set (below_set (below_set h hg) hg) hg) hg
/-- What the result's variable bears ahead of the end. -/
structure ResS (w0 : World) (w : World) : Prop where
  blk : w.heap[w0.heap.size]? = some (.cells #[.int .i64 0, .int .i64 0, .int .i64 0, .int .i64 0] 25 (0, 0))
  below : Below w0.heap.size w0 w
theorem ResS.step {w0 w w' : World} (h : Aside0 (ResS w0 w)) (hb : Below w.heap.size w w') : Aside0 (ResS w0 w') := ⟨blk_below h.out.blk hb, below_step h.out.below hb⟩
theorem ResS.cells {w0 w : World} (h : Aside0 (ResS w0 w)) : (w.cell? ⟨w0.heap.size, 0, none⟩ = some (.int .i64 0) ∧ w.cell? ⟨w0.heap.size, 1, none⟩ = some (.int .i64 0) ∧ w.cell? ⟨w0.heap.size, 2, none⟩ = some (.int .i64 0) ∧ w.cell? ⟨w0.heap.size, 3, none⟩ = some (.int .i64 0)) ∧ w.frozen? ⟨w0.heap.size, 0, none⟩ = false ∧ w.frozen? ⟨w0.heap.size, 1, none⟩ = false ∧ w.frozen? ⟨w0.heap.size, 2, none⟩ = false ∧ w.frozen? ⟨w0.heap.size, 3, none⟩ = false :=
  ⟨⟨blk_cell h.out.blk 0, blk_cell h.out.blk 1, blk_cell h.out.blk 2, blk_cell h.out.blk 3⟩, blk_frozen h.out.blk 0, blk_frozen h.out.blk 1, blk_frozen h.out.blk 2, blk_frozen h.out.blk 3⟩
set_option linter.unusedSimpArgs false
set_option maxRecDepth 100000
set_option maxHeartbeats 40000000 in
theorem impl_ParseField.calls (k : Nat) (s : ByteArray) (r1 r2 r3 r4 r5 : Int) (w : World) (h : impl_ParseField.f k s = some (r1, r2, r3, r4, r5)) :
    Calls Tryz.prog 15 #[.string s] w fun e w' => e = .returned (.tuple #[.agg #[.int .i64 r1, .int .i64 r2, .int .i64 r3, .int .i64 r4], .int .i64 r5]) ∧ Below w.heap.size w w' := by
  unfold impl_ParseField.f at h
  split at h
  rotate_left
  · cases h
  rename_i hsz
  obtain ⟨ps, hps⟩ : ∃ ps, ps = partsS 44 s := ⟨_, rfl⟩
  have hpl := parts_len 44 s
  rw [← hps] at h hpl
  have HPS := Aside0.mk hps
  obtain ⟨p0, qs, hpq⟩ : ∃ p0 qs, ps = p0 :: qs := by
    cases ps with
    | nil => simp at hpl
    | cons x l => exact ⟨x, l, rfl⟩
  clear hps
  subst hpq
  simp only [List.headD_cons, List.drop_succ_cons, List.drop_zero] at h
  have hlen : (p0 :: qs).length ≤ 1048578 := by
    have : Lib.countB s ⟨#[44]⟩ ≤ s.size + 1 := by rw [Lib.size_eq]; exact Lib.count_le _ _
    omega
  have hp0 := head_size HPS.out
  clear hpl
  have hu := Tryz.underlying25
  have hz := Tryz.zeroValue25
  have hub := fun W => print_bytes (P := Tryz.prog) 9 22 5 Tryz.underlying9 Tryz.underlying22 Tryz.underlying5 p0 W
  go_enter Tryz.func15, Tryz.ntmps15
  go_wp2_with (go_at_call 54; refine (split_calls s 44 _ (by omega)).mono ?_; rintro e w2 ⟨ad, rfl, hc2, hb2⟩; go_loud (rw [← HPS.out] at hc2 ⊢; have HC2 := Aside0.mk hc2; have HR2 : Aside0 (ResS w w2) := ⟨blk_below (blk_new w _) hb2, below_then (below_alloc (Below.refl w.heap.size w) _) (by simp) hb2⟩; have hx3 := head_at hc2 (by simp)))
  by_cases hn : 1 ≤ p0.size ∧ p0.size ≤ 8
  rotate_left
  · have hw0 : impl_within.f (p0.size : Int) 1 8 = some false := by
      unfold impl_within.f
      by_cases h1 : (1 : Int) ≤ (p0.size : Int)
      · rw [if_pos h1]
        have h2 : ¬ (p0.size : Int) ≤ 8 := by omega
        simp [h2]
      · rw [if_neg h1]
    rw [if_neg hn] at h
    simp only [Option.some.injEq, Prod.mk.injEq] at h
    obtain ⟨rfl, rfl, rfl, rfl, rfl⟩ := h
    go_wp2_with (first
      | (go_at_call 55; refine (size_bytes p0 _ (by omega)).mono ?_; rintro e w3 ⟨rfl, hb3⟩; have HR3 := ResS.step HR2 hb3; have HR4 := ResS.step HR3 (below_alloc (Below.refl w3.heap.size w3) (.cells #[.int .i64 (p0.size : Int), .int .i64 0, .int .i64 0, .int .i64 0] 25)))
      | (go_at_call 36; refine (impl_within.calls (p0.size : Int) 1 8 false _ hw0).mono ?_; rintro e w5 ⟨rfl, nd4, rfl⟩; have HR5 := ResS.step HR4 (pw_below_drewN (Below.refl _ _) nd4); obtain ⟨⟨hr0, hr1, hr2, hr3⟩, hf0, hf1, hf2, hf3⟩ := ResS.cells HR5))
    refine bodyPost_ret (results_ct rfl _ _ w.heap.size 25 #[.int .i64 0, .int .i64 0, .int .i64 0, .int .i64 0] (0, 0) _ rfl (four_blk HR5.out.blk _ _ _ _) Tryz.underlying25 rfl (by kernel_rfl)) rfl ?_
    exact ⟨rfl, four_below HR5.out.below (Nat.le_refl _) _ _ _ _⟩
  have hw0 : impl_within.f (p0.size : Int) 1 8 = some true := by
    unfold impl_within.f
    have h1 : (1 : Int) ≤ (p0.size : Int) := by omega
    have h2 : (p0.size : Int) ≤ 8 := by omega
    rw [if_pos h1]
    simp [h2]
  rw [if_pos hn] at h
  obtain ⟨t, ht, h⟩ := Option.bind_eq_some_iff.1 h
  obtain ⟨⟨z1, z2⟩, hz0, h⟩ := Option.bind_eq_some_iff.1 h
  have HT := Aside0.mk ht
  have HZ := Aside0.mk hz0
  clear ht hz0
  obtain ⟨LF, hLF⟩ : ∃ LF, LF = setsF t 49 64 t.size 0 0 := ⟨_, rfl⟩
  obtain ⟨RF, hRF⟩ : ∃ RF, RF = setsF p0 114 64 p0.size 0 0 := ⟨_, rfl⟩
  obtain ⟨BF, hBF⟩ : ∃ BF, BF = setsF p0 98 64 p0.size 0 0 := ⟨_, rfl⟩
  rw [← hLF, ← hRF, ← hBF] at h HZ
  have NL := Aside0.mk hLF.symm
  have NR := Aside0.mk hRF.symm
  have NB := Aside0.mk hBF.symm
  clear hLF hRF hBF
  have HN := Aside0.mk hn
  go_wp2_with (first
    | (go_at_call 55; refine (size_bytes p0 _ (by omega)).mono ?_; rintro e w3 ⟨rfl, hb3⟩; have HR3 := ResS.step HR2 hb3; have HR4 := ResS.step HR3 (below_alloc (Below.refl w3.heap.size w3) (.cells #[.int .i64 (p0.size : Int), .int .i64 0, .int .i64 0, .int .i64 0] 25)))
    | (go_at_call 36; refine (impl_within.calls (p0.size : Int) 1 8 true _ hw0).mono ?_; rintro e w5 ⟨rfl, nd4, rfl⟩; have HP5 : Aside0 (ParS w2 w3.heap.size p0.size 0 0 0 ((w3.alloc (.cells #[.int .i64 (p0.size : Int), .int .i64 0, .int .i64 0, .int .i64 0] 25)).drewN nd4)) := ⟨blk_below (blk_new w3 _) (pw_below_drewN (Below.refl _ _) nd4), below_step (below_step hb3 (below_alloc (Below.refl w3.heap.size w3) _)) (pw_below_drewN (Below.refl _ _) nd4), hb3.size⟩; have hx5 := head_at (Kd.C_below HC2.out HP5.out.below) (by simp)))
  have hge5 : w2.heap.size ≤ (((w3.alloc (.cells #[.int .i64 (p0.size : Int), .int .i64 0, .int .i64 0, .int .i64 0] 25)).drewN nd4)).heap.size := HP5.out.below.size
  have hws : (((w3.alloc (.cells #[.int .i64 (p0.size : Int), .int .i64 0, .int .i64 0, .int .i64 0] 25)).drewN nd4)).heap.size = w3.heap.size + 1 := by simp
  have hlt5 : w3.heap.size < (((w3.alloc (.cells #[.int .i64 (p0.size : Int), .int .i64 0, .int .i64 0, .int .i64 0] 25)).drewN nd4)).heap.size := by simp
  generalize hwA : ((w3.alloc (.cells #[.int .i64 (p0.size : Int), .int .i64 0, .int .i64 0, .int .i64 0] 25)).drewN nd4) = wA at HP5 hge5 hlt5 hws hx5 ⊢
  have HPI : Aside0 (ParS w2 w3.heap.size p0.size 0 0 0 (wA.iter p0 0)) := ParS.step HP5 (below_alloc (Below.refl wA.heap.size wA) _)
  have HI0 : Aside0 ((wA.iter p0 0).heap[wA.heap.size]? = some (.stringIter p0 0)) := ⟨World.iter_heap wA p0 0⟩
  obtain ⟨g1, hg1⟩ : ∃ g1, g1 = w3.heap.size := ⟨_, rfl⟩
  rw [hws] at HI0 hge5 hlt5
  obtain ⟨it, hit⟩ : ∃ it, it = w3.heap.size + 1 := ⟨_, rfl⟩
  rw [← hit] at HI0 hge5 hlt5 ⊢
  rw [← hg1] at HPI hlt5 ⊢
  clear hg1 hit hws hx5 HP5 HR3 HR4 hb3 hwA hx3 hc2 hb2
  have hgi : g1 ≠ it := by omega
  go_loopg [6] p0.size (fun gk v6 wr => ∃ (pos d : Nat) (R B : Int), p0.size - pos ≤ gk ∧ p0.size ≤ pos + d ∧ Aside0 (setsF p0 114 64 d pos R = RF) ∧ Aside0 (setsF p0 98 64 d pos B = BF) ∧ Aside0 (wr.heap[it]? = some (.stringIter p0 pos)) ∧ Aside0 (ParS w2 g1 p0.size 0 R B wr))
  case atStart => exact ⟨0, p0.size, 0, 0, by omega, by omega, NR, NB, HI0, HPI⟩
  case round =>
    clear NR NB HI0 HPI
    obtain ⟨pos, d, R, B, hgk, hpd, NR, NB, HI, HP⟩ := hrel
    by_cases hlt : pos < p0.size
    · obtain ⟨w3, hnx, hit3, hg3⟩ := next_text (P := Tryz.prog) HI.out hlt
      have HP2 := ParS.kept HP hg3 hgi hge5
      have HIT := Aside0.mk hit3
      have hwd := wide_pos p0 pos hlt
      obtain ⟨d, rfl⟩ : ∃ d', d = d' + 1 := ⟨d - 1, by omega⟩
      have hp64 : pos < 64 := by omega
      simp only [setsF, hlt, hp64, if_true] at NR NB
      generalize runeI p0 pos = ru at hnx NR NB
      have N114 := Aside0.mk (bit_eq ru 114)
      have N98 := Aside0.mk (bit_eq ru 98)
      generalize (if ru = 114 then (1 : Int) else 0) = x114 at NR N114
      generalize (if ru = 98 then (1 : Int) else 0) = x98 at NB N98
      have hpn : (0 : Int) ≤ (pos : Int) := Int.natCast_nonneg _
      clear hit3 hg3
      go_wp2_with fail
      refine start_ (n := 10) (S := (fun w' => w'.cell? ⟨g1, 2, none⟩ = some (.int .i64 R))) (ds := [9]) #[false, false, false, false, false, false, false, false, false, false] (by kernel_rfl) rfl rfl (blk_cell (ParS.step HP2 (below_drew (Below.refl _ _))).out.f 2) (fun hHeld => ?_); refine with_tabW par8_tab par8_bits (fun HT_ HW_ => ?_)
      have HP2D := ParS.step HP2 (below_drew (Below.refl w3.heap.size w3))
      have HITD : Aside0 (w3.drew.heap[it]? = some (.stringIter p0 (pos + wideI p0 pos))) := ⟨blk_below HIT.out (below_drew (Below.refl _ _))⟩
      generalize w3.drew = wd at HP2D HITD hHeld ⊢
      clear HIT
      refine pure_ (i := 0) (N := some 33) (v := ?_) (a' := ?_) #[true, false, false, false, false, false, false, false, false, false] rfl rfl (any_of HT_.out (by kernel_rfl)) (fun _ _ _ h => h) (Or.inl ⟨by rfl, ?_⟩) ?_ ?_
      rotate_left
      · intro w'
        go_simp
        with_reducible rfl
      rotate_left
      · simp only [Act.put, List.setIfInBounds_toArray, List.set_cons_zero, List.set_cons_succ, i64_w, i32_w]
        rfl
      refine take_ (i := 1) (N := some 34) (v := ?_) (a' := ?_) #[true, true, false, false, false, false, false, false, false, false] rfl rfl (take_ofW HT_.out HW_.out (by kernel_rfl)) (fun _ _ _ h => h) (Or.inl ⟨by rfl, ?_⟩) hHeld ?_ ?_
      rotate_left
      · rintro w' s0
        go_simp
        with_reducible rfl
      rotate_left
      · simp only [Act.put, List.setIfInBounds_toArray, List.set_cons_zero, List.set_cons_succ, i64_w, i32_w]
        rfl
      refine pure_ (i := 2) (N := some 35) (v := ?_) (a' := ?_) #[true, true, true, false, false, false, false, false, false, false] rfl rfl (any_of HT_.out (by kernel_rfl)) (fun _ _ _ h => h) (Or.inl ⟨by rfl, ?_⟩) ?_ ?_
      rotate_left
      · intro w'
        go_simp
        with_reducible rfl
      rotate_left
      · simp only [Act.put, List.setIfInBounds_toArray, List.set_cons_zero, List.set_cons_succ, i64_w, i32_w]
        rfl
      refine pure_ (i := 3) (N := some 36) (v := ?_) (a' := ?_) #[true, true, true, true, false, false, false, false, false, false] rfl rfl (any_of HT_.out (by kernel_rfl)) (fun _ _ _ h => h) (Or.inl ⟨by rfl, ?_⟩) ?_ ?_
      rotate_left
      · intro w'
        go_simp
        with_reducible rfl
      rotate_left
      · simp only [Act.put, List.setIfInBounds_toArray, List.set_cons_zero, List.set_cons_succ, i64_w, i32_w]
        rfl
      refine pure_ (i := 5) (N := some 38) (v := ?_) (a' := ?_) #[true, true, true, true, false, true, false, false, false, false] rfl rfl (any_of HT_.out (by kernel_rfl)) (fun _ _ _ h => h) (Or.inl ⟨by rfl, ?_⟩) ?_ ?_
      rotate_left
      · intro w'
        go_simp
        with_reducible rfl
      rotate_left
      · simp only [Act.put, List.setIfInBounds_toArray, List.set_cons_zero, List.set_cons_succ, i64_w, i32_w]
        rfl
      refine one_ (i := 4) (N := some 37) #[true, true, true, true, true, true, false, false, false, false] rfl rfl (one_of HT_.out (by kernel_rfl)) (by decide) (fun K hK => ?_)
      refine goes_ Tryz.func52 (by kernel_rfl) rfl #[.bool (ru == 114)] (by rfl) rfl rfl (by (try simp only [List.map_toArray, List.map_cons, List.map_nil]); first | done | rfl) ?_
      refine (impl_bit.calls (ru == 114) x114 _ N114.out).mono ?_
      rintro e wb ⟨rfl, nd, rfl⟩
      refine ⟨_, rfl, ?_⟩
      have HE := ParS.step HP2D (pw_below_drewN (Below.refl wd.heap.size wd) nd)
      have HIT : Aside0 ((wd.drewN nd).heap[it]? = some (.stringIter p0 (pos + wideI p0 pos))) := ⟨blk_below HITD.out (pw_below_drewN (Below.refl _ _) nd)⟩
      generalize wd.drewN nd = we at HE HIT ⊢
      clear HITD
      refine hK.out _ _ (blk_cell HE.out.f 2) (fun hHeld => ?_)
      clear hK K
      refine norm_ (a' := ?_) ?_ ?_
      rotate_left
      · show Act.put _ (some 37) _ = _
        simp only [Act.put, List.setIfInBounds_toArray, List.set_cons_zero, List.set_cons_succ, i64_w, i32_w]
        rfl
      refine pure_ (i := 6) (N := some 39) (v := ?_) (a' := ?_) #[true, true, true, true, true, true, true, false, false, false] rfl rfl (any_of HT_.out (by kernel_rfl)) (fun _ _ _ h => h) (Or.inl ⟨by rfl, ?_⟩) ?_ ?_
      rotate_left
      · intro w'
        go_simp
        with_reducible rfl
      rotate_left
      · simp only [Act.put, List.setIfInBounds_toArray, List.set_cons_zero, List.set_cons_succ, i64_w, i32_w]
        rfl
      refine pure_ (i := 7) (N := some 40) (v := ?_) (a' := ?_) #[true, true, true, true, true, true, true, true, false, false] rfl rfl (any_of HT_.out (by kernel_rfl)) (fun _ _ _ h => h) (Or.inl ⟨by rfl, ?_⟩) ?_ ?_
      rotate_left
      · intro w'
        go_simp
        with_reducible rfl
      rotate_left
      · simp only [Act.put, List.setIfInBounds_toArray, List.set_cons_zero, List.set_cons_succ, i64_w, i32_w]
        rfl
      refine pure_ (i := 8) (N := some 41) (v := ?_) (a' := ?_) #[true, true, true, true, true, true, true, true, true, false] rfl rfl (any_of HT_.out (by kernel_rfl)) (fun _ _ _ h => h) (Or.inl ⟨by rfl, ?_⟩) ?_ ?_
      rotate_left
      · intro w'
        go_simp
        with_reducible rfl
      rotate_left
      · simp only [Act.put, List.setIfInBounds_toArray, List.set_cons_zero, List.set_cons_succ, i64_w, i32_w]
        rfl
      have hz1 : we.frozen? ⟨g1, 2, none⟩ = false := blk_frozen HE.out.f 2
      have hz2 : we.cell? ⟨g1, 2, none⟩ = some (.int .i64 R) := blk_cell HE.out.f 2
      refine last_ (i := 9) (N := none) #[true, true, true, true, true, true, true, true, true, true] rfl rfl (one_of HT_.out (by kernel_rfl)) (by decide) (fun K hK => ?_)
      refine skip_ (w1 := ?_) (by rfl) rfl ?_ ?_
      rotate_left
      · go_simp
        rfl
      refine hK.out _ _ ?_
      clear hK K
      refine done_ (done_of HT_.out (by kernel_rfl)) ?_
      have HP3 := ParS.red HE (Go.bits .or .i64 R (wrap64 (x114 * 2 ^ pos)))
      have HIT : Aside0 ((we.setCell ⟨g1, 2, none⟩ (.int .i64 (Go.bits .or .i64 R (wrap64 (x114 * 2 ^ pos))))).heap[it]? = some (.stringIter p0 (pos + wideI p0 pos))) := ⟨(Below.heap_setCell _ _ _ _ (fun e => hgi e.symm)).trans HIT.out⟩
      generalize we.setCell ⟨g1, 2, none⟩ (.int .i64 (Go.bits .or .i64 R (wrap64 (x114 * 2 ^ pos)))) = w4 at HP3 HIT ⊢
      clear hz1 hz2 HE
      go_wp2_with fail
      refine start_ (n := 10) (S := (fun w' => w'.cell? ⟨g1, 3, none⟩ = some (.int .i64 B))) (ds := [9]) #[false, false, false, false, false, false, false, false, false, false] (by kernel_rfl) rfl rfl (blk_cell (ParS.step HP3 (below_drew (Below.refl _ _))).out.f 3) (fun hHeld => ?_); refine with_tabW par9_tab par9_bits (fun HT_ HW_ => ?_)
      have HP3D := ParS.step HP3 (below_drew (Below.refl w4.heap.size w4))
      have HITD : Aside0 (w4.drew.heap[it]? = some (.stringIter p0 (pos + wideI p0 pos))) := ⟨blk_below HIT.out (below_drew (Below.refl _ _))⟩
      generalize w4.drew = wd at HP3D HITD hHeld ⊢
      clear HIT
      refine pure_ (i := 0) (N := some 42) (v := ?_) (a' := ?_) #[true, false, false, false, false, false, false, false, false, false] rfl rfl (any_of HT_.out (by kernel_rfl)) (fun _ _ _ h => h) (Or.inl ⟨by rfl, ?_⟩) ?_ ?_
      rotate_left
      · intro w'
        go_simp
        with_reducible rfl
      rotate_left
      · simp only [Act.put, List.setIfInBounds_toArray, List.set_cons_zero, List.set_cons_succ, i64_w, i32_w]
        rfl
      refine take_ (i := 1) (N := some 43) (v := ?_) (a' := ?_) #[true, true, false, false, false, false, false, false, false, false] rfl rfl (take_ofW HT_.out HW_.out (by kernel_rfl)) (fun _ _ _ h => h) (Or.inl ⟨by rfl, ?_⟩) hHeld ?_ ?_
      rotate_left
      · rintro w' s0
        go_simp
        with_reducible rfl
      rotate_left
      · simp only [Act.put, List.setIfInBounds_toArray, List.set_cons_zero, List.set_cons_succ, i64_w, i32_w]
        rfl
      refine pure_ (i := 2) (N := some 44) (v := ?_) (a' := ?_) #[true, true, true, false, false, false, false, false, false, false] rfl rfl (any_of HT_.out (by kernel_rfl)) (fun _ _ _ h => h) (Or.inl ⟨by rfl, ?_⟩) ?_ ?_
      rotate_left
      · intro w'
        go_simp
        with_reducible rfl
      rotate_left
      · simp only [Act.put, List.setIfInBounds_toArray, List.set_cons_zero, List.set_cons_succ, i64_w, i32_w]
        rfl
      refine pure_ (i := 3) (N := some 45) (v := ?_) (a' := ?_) #[true, true, true, true, false, false, false, false, false, false] rfl rfl (any_of HT_.out (by kernel_rfl)) (fun _ _ _ h => h) (Or.inl ⟨by rfl, ?_⟩) ?_ ?_
      rotate_left
      · intro w'
        go_simp
        with_reducible rfl
      rotate_left
      · simp only [Act.put, List.setIfInBounds_toArray, List.set_cons_zero, List.set_cons_succ, i64_w, i32_w]
        rfl
      refine pure_ (i := 5) (N := some 47) (v := ?_) (a' := ?_) #[true, true, true, true, false, true, false, false, false, false] rfl rfl (any_of HT_.out (by kernel_rfl)) (fun _ _ _ h => h) (Or.inl ⟨by rfl, ?_⟩) ?_ ?_
      rotate_left
      · intro w'
        go_simp
        with_reducible rfl
      rotate_left
      · simp only [Act.put, List.setIfInBounds_toArray, List.set_cons_zero, List.set_cons_succ, i64_w, i32_w]
        rfl
      refine one_ (i := 4) (N := some 46) #[true, true, true, true, true, true, false, false, false, false] rfl rfl (one_of HT_.out (by kernel_rfl)) (by decide) (fun K hK => ?_)
      refine goes_ Tryz.func52 (by kernel_rfl) rfl #[.bool (ru == 98)] (by rfl) rfl rfl (by (try simp only [List.map_toArray, List.map_cons, List.map_nil]); first | done | rfl) ?_
      refine (impl_bit.calls (ru == 98) x98 _ N98.out).mono ?_
      rintro e wb ⟨rfl, nd, rfl⟩
      refine ⟨_, rfl, ?_⟩
      have HE := ParS.step HP3D (pw_below_drewN (Below.refl wd.heap.size wd) nd)
      have HIT : Aside0 ((wd.drewN nd).heap[it]? = some (.stringIter p0 (pos + wideI p0 pos))) := ⟨blk_below HITD.out (pw_below_drewN (Below.refl _ _) nd)⟩
      generalize wd.drewN nd = we at HE HIT ⊢
      clear HITD
      refine hK.out _ _ (blk_cell HE.out.f 3) (fun hHeld => ?_)
      clear hK K
      refine norm_ (a' := ?_) ?_ ?_
      rotate_left
      · show Act.put _ (some 46) _ = _
        simp only [Act.put, List.setIfInBounds_toArray, List.set_cons_zero, List.set_cons_succ, i64_w, i32_w]
        rfl
      refine pure_ (i := 6) (N := some 48) (v := ?_) (a' := ?_) #[true, true, true, true, true, true, true, false, false, false] rfl rfl (any_of HT_.out (by kernel_rfl)) (fun _ _ _ h => h) (Or.inl ⟨by rfl, ?_⟩) ?_ ?_
      rotate_left
      · intro w'
        go_simp
        with_reducible rfl
      rotate_left
      · simp only [Act.put, List.setIfInBounds_toArray, List.set_cons_zero, List.set_cons_succ, i64_w, i32_w]
        rfl
      refine pure_ (i := 7) (N := some 49) (v := ?_) (a' := ?_) #[true, true, true, true, true, true, true, true, false, false] rfl rfl (any_of HT_.out (by kernel_rfl)) (fun _ _ _ h => h) (Or.inl ⟨by rfl, ?_⟩) ?_ ?_
      rotate_left
      · intro w'
        go_simp
        with_reducible rfl
      rotate_left
      · simp only [Act.put, List.setIfInBounds_toArray, List.set_cons_zero, List.set_cons_succ, i64_w, i32_w]
        rfl
      refine pure_ (i := 8) (N := some 50) (v := ?_) (a' := ?_) #[true, true, true, true, true, true, true, true, true, false] rfl rfl (any_of HT_.out (by kernel_rfl)) (fun _ _ _ h => h) (Or.inl ⟨by rfl, ?_⟩) ?_ ?_
      rotate_left
      · intro w'
        go_simp
        with_reducible rfl
      rotate_left
      · simp only [Act.put, List.setIfInBounds_toArray, List.set_cons_zero, List.set_cons_succ, i64_w, i32_w]
        rfl
      have hz1 : we.frozen? ⟨g1, 3, none⟩ = false := blk_frozen HE.out.f 3
      have hz2 : we.cell? ⟨g1, 3, none⟩ = some (.int .i64 B) := blk_cell HE.out.f 3
      refine last_ (i := 9) (N := none) #[true, true, true, true, true, true, true, true, true, true] rfl rfl (one_of HT_.out (by kernel_rfl)) (by decide) (fun K hK => ?_)
      refine skip_ (w1 := ?_) (by rfl) rfl ?_ ?_
      rotate_left
      · go_simp
        rfl
      refine hK.out _ _ ?_
      clear hK K
      refine done_ (done_of HT_.out (by kernel_rfl)) ?_
      have HP4 := ParS.blue HE (Go.bits .or .i64 B (wrap64 (x98 * 2 ^ pos)))
      have HIT : Aside0 ((we.setCell ⟨g1, 3, none⟩ (.int .i64 (Go.bits .or .i64 B (wrap64 (x98 * 2 ^ pos))))).heap[it]? = some (.stringIter p0 (pos + wideI p0 pos))) := ⟨(Below.heap_setCell _ _ _ _ (fun e => hgi e.symm)).trans HIT.out⟩
      go_wp2_with fail
      go_roundg (p0.size - (pos + wideI p0 pos))
      case measure => omega
      case rel => exact ⟨pos + wideI p0 pos, d, _, _, Nat.le_refl _, by omega, NR, NB, HIT, HP4⟩
    · have hR : R = RF ∧ B = BF := by
        have h1 := NR.out
        have h2 := NB.out
        cases d with
        | zero => exact ⟨h1, h2⟩
        | succ d =>
          rw [setsF, if_neg hlt] at h1 h2
          exact ⟨h1, h2⟩
      obtain ⟨rfl, rfl⟩ := hR
      have hnx := fun ty => next_over (P := Tryz.prog) HI.out hlt ty
      have hinf : (Tryz.prog.info? 9).map (fun i => (i.zero, i.size, i.bytes)) = some (some (.string ByteArray.empty), 1, 16) := by kernel_rfl
      obtain ⟨inf, hi1, hi2⟩ := Option.map_eq_some_iff.1 hinf
      have hi3 : inf.size = 1 := congrArg (fun z => z.2.1) hi2
      obtain ⟨Aq, hsl, hrd, hlq⟩ := print_drop_of (P := Tryz.prog) Value.string ByteArray.empty 72 9 .i64 Tryz.underlying72 hi1 hi3 (some ad) (p0 :: qs).length (p0 :: qs) 1 (by omega) (by simp only [List.length_cons]; omega) (Nat.le_refl _)
      have hsl2 : ∀ W : World, (Instr.slice 72 (.slice (some ad) (qs.length + 1) (qs.length + 1)) (some (.int .i64 1)) none none).run Tryz.prog W = .ok (.slice Aq qs.length qs.length) W := hsl
      have hjoin := Aside0.mk (strings_Join.calls Aq qs.length qs ⟨#[]⟩ t wr (Kd.C_of_reads (d := ByteArray.empty) (h1 := fun _ => rfl) (hrd wr (Kd.reads_of_C (enc := Value.string) (d := ByteArray.empty) (h1 := fun _ => rfl) (Kd.C_below HC2.out HP.out.below)))) (Nat.le_refl _) HT.out)
      clear hsl hrd hlq hinf hi1 hi2 hi3
      go_wp2_with (go_at_call 56; refine hjoin.out.mono ?_; rintro e w6 ⟨rfl, hb6⟩; have HP6 := ParS.step HP hb6)
      have hlt6 : g1 < w6.heap.size := blk_lt HP6.out.f
      have hge6 : w2.heap.size ≤ w6.heap.size := HP6.out.below.size
      have HPI : Aside0 (ParS w2 g1 p0.size 0 R B (w6.iter t 0)) := ParS.step HP6 (below_alloc (Below.refl w6.heap.size w6) _)
      have HI0 : Aside0 ((w6.iter t 0).heap[w6.heap.size]? = some (.stringIter t 0)) := ⟨World.iter_heap w6 t 0⟩
      generalize w6.heap.size = it at HI0 hlt6 hge6 ⊢
      have hgi : g1 ≠ it := by omega
      clear HP6 hb6 hjoin hsl2 HP HI hnx NR NB hlt6
      go_loopg [8] t.size (fun gk v8 wr => ∃ (pos d : Nat) (L : Int), t.size - pos ≤ gk ∧ t.size ≤ pos + d ∧ Aside0 (setsF t 49 64 d pos L = LF) ∧ Aside0 (wr.heap[it]? = some (.stringIter t pos)) ∧ Aside0 (ParS w2 g1 p0.size L R B wr))
      case atStart => exact ⟨0, t.size, 0, by omega, by omega, NL, HI0, HPI⟩
      case round =>
        clear NL HI0 HPI
        obtain ⟨pos, d, L, hgk, hpd, NL, HI, HP⟩ := hrel
        by_cases hlt : pos < t.size
        · obtain ⟨w3, hnx, hit3, hg3⟩ := next_text (P := Tryz.prog) HI.out hlt
          have HP2 := ParS.kept HP hg3 hgi hge6
          have HIT := Aside0.mk hit3
          have hwd := wide_pos t pos hlt
          obtain ⟨d, rfl⟩ : ∃ d', d = d' + 1 := ⟨d - 1, by omega⟩
          by_cases hp64 : pos < 64
          · have hp64z : (pos : Int) < 64 := by omega
            simp only [setsF, hlt, hp64, if_true] at NL
            generalize runeI t pos = ru at hnx NL
            have N49 := Aside0.mk (bit_eq ru 49)
            generalize (if ru = 49 then (1 : Int) else 0) = x49 at NL N49
            have hpn : (0 : Int) ≤ (pos : Int) := Int.natCast_nonneg _
            clear hit3 hg3
            go_wp2_with fail
            refine start_ (n := 10) (S := (fun w' => w'.cell? ⟨g1, 1, none⟩ = some (.int .i64 L))) (ds := [9]) #[false, false, false, false, false, false, false, false, false, false] (by kernel_rfl) rfl rfl (blk_cell (ParS.step HP2 (below_drew (Below.refl _ _))).out.f 1) (fun hHeld => ?_); refine with_tabW par14_tab par14_bits (fun HT_ HW_ => ?_)
            have HP2D := ParS.step HP2 (below_drew (Below.refl w3.heap.size w3))
            have HITD : Aside0 (w3.drew.heap[it]? = some (.stringIter t (pos + wideI t pos))) := ⟨blk_below HIT.out (below_drew (Below.refl _ _))⟩
            generalize w3.drew = wd at HP2D HITD hHeld ⊢
            clear HIT
            refine pure_ (i := 0) (N := some 61) (v := ?_) (a' := ?_) #[true, false, false, false, false, false, false, false, false, false] rfl rfl (any_of HT_.out (by kernel_rfl)) (fun _ _ _ h => h) (Or.inl ⟨by rfl, ?_⟩) ?_ ?_
            rotate_left
            · intro w'
              go_simp
              with_reducible rfl
            rotate_left
            · simp only [Act.put, List.setIfInBounds_toArray, List.set_cons_zero, List.set_cons_succ, i64_w, i32_w]
              rfl
            refine take_ (i := 1) (N := some 62) (v := ?_) (a' := ?_) #[true, true, false, false, false, false, false, false, false, false] rfl rfl (take_ofW HT_.out HW_.out (by kernel_rfl)) (fun _ _ _ h => h) (Or.inl ⟨by rfl, ?_⟩) hHeld ?_ ?_
            rotate_left
            · rintro w' s0
              go_simp
              with_reducible rfl
            rotate_left
            · simp only [Act.put, List.setIfInBounds_toArray, List.set_cons_zero, List.set_cons_succ, i64_w, i32_w]
              rfl
            refine pure_ (i := 2) (N := some 63) (v := ?_) (a' := ?_) #[true, true, true, false, false, false, false, false, false, false] rfl rfl (any_of HT_.out (by kernel_rfl)) (fun _ _ _ h => h) (Or.inl ⟨by rfl, ?_⟩) ?_ ?_
            rotate_left
            · intro w'
              go_simp
              with_reducible rfl
            rotate_left
            · simp only [Act.put, List.setIfInBounds_toArray, List.set_cons_zero, List.set_cons_succ, i64_w, i32_w]
              rfl
            refine pure_ (i := 3) (N := some 64) (v := ?_) (a' := ?_) #[true, true, true, true, false, false, false, false, false, false] rfl rfl (any_of HT_.out (by kernel_rfl)) (fun _ _ _ h => h) (Or.inl ⟨by rfl, ?_⟩) ?_ ?_
            rotate_left
            · intro w'
              go_simp
              with_reducible rfl
            rotate_left
            · simp only [Act.put, List.setIfInBounds_toArray, List.set_cons_zero, List.set_cons_succ, i64_w, i32_w]
              rfl
            refine pure_ (i := 5) (N := some 66) (v := ?_) (a' := ?_) #[true, true, true, true, false, true, false, false, false, false] rfl rfl (any_of HT_.out (by kernel_rfl)) (fun _ _ _ h => h) (Or.inl ⟨by rfl, ?_⟩) ?_ ?_
            rotate_left
            · intro w'
              go_simp
              with_reducible rfl
            rotate_left
            · simp only [Act.put, List.setIfInBounds_toArray, List.set_cons_zero, List.set_cons_succ, i64_w, i32_w]
              rfl
            refine one_ (i := 4) (N := some 65) #[true, true, true, true, true, true, false, false, false, false] rfl rfl (one_of HT_.out (by kernel_rfl)) (by decide) (fun K hK => ?_)
            refine goes_ Tryz.func52 (by kernel_rfl) rfl #[.bool (ru == 49)] (by rfl) rfl rfl (by (try simp only [List.map_toArray, List.map_cons, List.map_nil]); first | done | rfl) ?_
            refine (impl_bit.calls (ru == 49) x49 _ N49.out).mono ?_
            rintro e wb ⟨rfl, nd, rfl⟩
            refine ⟨_, rfl, ?_⟩
            have HE := ParS.step HP2D (pw_below_drewN (Below.refl wd.heap.size wd) nd)
            have HIT : Aside0 ((wd.drewN nd).heap[it]? = some (.stringIter t (pos + wideI t pos))) := ⟨blk_below HITD.out (pw_below_drewN (Below.refl _ _) nd)⟩
            generalize wd.drewN nd = we at HE HIT ⊢
            clear HITD
            refine hK.out _ _ (blk_cell HE.out.f 1) (fun hHeld => ?_)
            clear hK K
            refine norm_ (a' := ?_) ?_ ?_
            rotate_left
            · show Act.put _ (some 65) _ = _
              simp only [Act.put, List.setIfInBounds_toArray, List.set_cons_zero, List.set_cons_succ, i64_w, i32_w]
              rfl
            refine pure_ (i := 6) (N := some 67) (v := ?_) (a' := ?_) #[true, true, true, true, true, true, true, false, false, false] rfl rfl (any_of HT_.out (by kernel_rfl)) (fun _ _ _ h => h) (Or.inl ⟨by rfl, ?_⟩) ?_ ?_
            rotate_left
            · intro w'
              go_simp
              with_reducible rfl
            rotate_left
            · simp only [Act.put, List.setIfInBounds_toArray, List.set_cons_zero, List.set_cons_succ, i64_w, i32_w]
              rfl
            refine pure_ (i := 7) (N := some 68) (v := ?_) (a' := ?_) #[true, true, true, true, true, true, true, true, false, false] rfl rfl (any_of HT_.out (by kernel_rfl)) (fun _ _ _ h => h) (Or.inl ⟨by rfl, ?_⟩) ?_ ?_
            rotate_left
            · intro w'
              go_simp
              with_reducible rfl
            rotate_left
            · simp only [Act.put, List.setIfInBounds_toArray, List.set_cons_zero, List.set_cons_succ, i64_w, i32_w]
              rfl
            refine pure_ (i := 8) (N := some 69) (v := ?_) (a' := ?_) #[true, true, true, true, true, true, true, true, true, false] rfl rfl (any_of HT_.out (by kernel_rfl)) (fun _ _ _ h => h) (Or.inl ⟨by rfl, ?_⟩) ?_ ?_
            rotate_left
            · intro w'
              go_simp
              with_reducible rfl
            rotate_left
            · simp only [Act.put, List.setIfInBounds_toArray, List.set_cons_zero, List.set_cons_succ, i64_w, i32_w]
              rfl
            have hz1 : we.frozen? ⟨g1, 1, none⟩ = false := blk_frozen HE.out.f 1
            have hz2 : we.cell? ⟨g1, 1, none⟩ = some (.int .i64 L) := blk_cell HE.out.f 1
            refine last_ (i := 9) (N := none) #[true, true, true, true, true, true, true, true, true, true] rfl rfl (one_of HT_.out (by kernel_rfl)) (by decide) (fun K hK => ?_)
            refine skip_ (w1 := ?_) (by rfl) rfl ?_ ?_
            rotate_left
            · go_simp
              rfl
            refine hK.out _ _ ?_
            clear hK K
            refine done_ (done_of HT_.out (by kernel_rfl)) ?_
            have HP3 := ParS.lines HE (Go.bits .or .i64 L (wrap64 (x49 * 2 ^ pos)))
            have HIT : Aside0 ((we.setCell ⟨g1, 1, none⟩ (.int .i64 (Go.bits .or .i64 L (wrap64 (x49 * 2 ^ pos))))).heap[it]? = some (.stringIter t (pos + wideI t pos))) := ⟨(Below.heap_setCell _ _ _ _ (fun e => hgi e.symm)).trans HIT.out⟩
            go_wp2_with fail
            go_roundg (t.size - (pos + wideI t pos))
            case measure => omega
            case rel => exact ⟨pos + wideI t pos, d, _, Nat.le_refl _, by omega, NL, HIT, HP3⟩
          · have hp64z : ¬ (pos : Int) < 64 := by omega
            have hp64y : (64 : Int) ≤ (pos : Int) := by omega
            simp only [setsF, hlt, hp64, if_true, if_false] at NL
            clear hit3 hg3
            go_wp2_with fail
            go_roundg (t.size - (pos + wideI t pos))
            case measure => omega
            case rel => exact ⟨pos + wideI t pos, d, L, Nat.le_refl _, by omega, NL, HIT, HP2⟩
        · have hL : L = LF := by
            have h1 := NL.out
            cases d with
            | zero => exact h1
            | succ d =>
              rw [setsF, if_neg hlt] at h1
              exact h1
          subst hL
          have hnx := fun ty => next_over (P := Tryz.prog) HI.out hlt ty
          obtain ⟨q0, q1, q2, q3⟩ := ParS.cells HP
          have HRS : Aside0 (ResS w wr) := ResS.step HR2 HP.out.below
          have fin : ∀ w9 : World, Below wr.heap.size wr w9 → Aside0 (ResS w w9) ∧ Aside0 (ParS w2 g1 p0.size L R B w9) := fun w9 hb => ⟨ResS.step HRS hb, ParS.step HP hb⟩
          have FIN := Aside0.mk fin
          clear fin
          by_cases hz2 : z2 = 0
          · subst hz2
            by_cases hs : z1.toList = s.toList
            · rw [if_pos ⟨rfl, hs⟩] at h
              simp only [Option.some.injEq, Prod.mk.injEq] at h
              obtain ⟨rfl, rfl, rfl, rfl, rfl⟩ := h
              have hs1 : (z1.toList == s.toList) = true := beq_iff_eq.mpr hs
              have hs2 : (z1.toList != s.toList) = false := by simp [hs]
              go_wp2_with (go_at_call 14; refine (impl_FieldText.calls k p0.size L R B z1 0 _ HZ.out).mono ?_; rintro e w9 ⟨rfl, hb9⟩; obtain ⟨HR9, HP9⟩ := FIN.out w9 hb9; obtain ⟨⟨hr0, hr1, hr2, hr3⟩, hf0, hf1, hf2, hf3⟩ := ResS.cells HR9; obtain ⟨y0, y1, y2, y3⟩ := ParS.cells HP9)
              refine bodyPost_ret (results_ct rfl _ _ w.heap.size 25 #[.int .i64 p0.size, .int .i64 L, .int .i64 R, .int .i64 B] (0, 0) _ rfl (four_blk HR9.out.blk _ _ _ _) Tryz.underlying25 rfl (by kernel_rfl)) rfl ?_
              exact ⟨rfl, four_below HR9.out.below (Nat.le_refl _) _ _ _ _⟩
            · rw [if_neg (fun h => hs h.2)] at h
              simp only [Option.some.injEq, Prod.mk.injEq] at h
              obtain ⟨rfl, rfl, rfl, rfl, rfl⟩ := h
              have hs1 : (z1.toList == s.toList) = false := beq_eq_false_iff_ne.mpr hs
              have hs2 : (z1.toList != s.toList) = true := by simp [hs]
              go_wp2_with (go_at_call 14; refine (impl_FieldText.calls k p0.size L R B z1 0 _ HZ.out).mono ?_; rintro e w9 ⟨rfl, hb9⟩; obtain ⟨HR9, HP9⟩ := FIN.out w9 hb9; obtain ⟨⟨hr0, hr1, hr2, hr3⟩, hf0, hf1, hf2, hf3⟩ := ResS.cells HR9)
              refine bodyPost_ret (results_ct rfl _ _ w.heap.size 25 #[.int .i64 0, .int .i64 0, .int .i64 0, .int .i64 0] (0, 0) _ rfl (four_blk HR9.out.blk _ _ _ _) Tryz.underlying25 rfl (by kernel_rfl)) rfl ?_
              exact ⟨rfl, four_below HR9.out.below (Nat.le_refl _) _ _ _ _⟩
          · rw [if_neg (fun h => hz2 h.1)] at h
            simp only [Option.some.injEq, Prod.mk.injEq] at h
            obtain ⟨rfl, rfl, rfl, rfl, rfl⟩ := h
            have hz3 : (z2 == 0) = false := beq_eq_false_iff_ne.mpr hz2
            have hz4 : (z2 != 0) = true := bne_iff_ne.mpr hz2
            go_wp2_with (go_at_call 14; refine (impl_FieldText.calls k p0.size L R B z1 z2 _ HZ.out).mono ?_; rintro e w9 ⟨rfl, hb9⟩; obtain ⟨HR9, HP9⟩ := FIN.out w9 hb9; obtain ⟨⟨hr0, hr1, hr2, hr3⟩, hf0, hf1, hf2, hf3⟩ := ResS.cells HR9)
            refine bodyPost_ret (results_ct rfl _ _ w.heap.size 25 #[.int .i64 0, .int .i64 0, .int .i64 0, .int .i64 0] (0, 0) _ rfl (four_blk HR9.out.blk _ _ _ _) Tryz.underlying25 rfl (by kernel_rfl)) rfl ?_
            exact ⟨rfl, four_below HR9.out.below (Nat.le_refl _) _ _ _ _⟩
end Go.Proofs.YtlmohkbimnhecaaGreatDoor.Q
