/-
  Lists of pairs of nodes in memory: rows of two numbers, each in a block of its own (Prs); slices.Clone at [][]int64, which shares the rows; and the predicate of pairLines. Lists of less than 1,000,000 pairs.
-/
import Derived.Test.YtjeiifiacjhfoaaHofRows
import Derived.Lib.SliceRun
namespace Go.Proofs.Ytjeiifiacjhfoaa.Q
open Go.RowKit Go.Proofs.YtjeiifiacjhfoaaW.PrintWords Go.Proofs.YtjeiifiacjhfoaaW.PrintLast Go.Proofs.YtjeiifiacjhfoaaW.PrintMore

/-- A row of two cells at a block's head. -/
def rowV (b : Nat) : Value := .slice (some ⟨b, 0, none⟩) 2 2
def Kb : Kd Nat := Kd.scalar rowV (fun _ => rfl)
def two (p : Int × Int) : List Int := [p.1, p.2]
/-- The slice holds the rows bs, which hold the pairs ps: all in blocks from base on, no two in one. -/
structure Prs (base : Nat) (w : World) (v : Value) (bs : List Nat) (ps : List (Int × Int)) : Prop where
  own : Kd.R Kb 22 w base (fun _ => True) v bs
  len : bs.length = ps.length
  nodup : bs.Nodup
  low : ∀ b ∈ bs, base ≤ b
  rows : ∀ (j : Nat) (h : j < bs.length) (h2 : j < ps.length), w.heap[bs[j]]? = some (.cells #[.int .i64 ps[j].1, .int .i64 ps[j].2] 2 (0, 0))
theorem Prs.nil (base : Nat) (w : World) : Prs base w (.slice none 0 0) [] [] := ⟨Kd.R_nil _ _ _ _ _, rfl, by simp, by simp, fun j h => by simp at h⟩
theorem Prs.below {base : Nat} {w w' : World} {v : Value} {bs : List Nat} {ps : List (Int × Int)} (h : Prs base w v bs ps) (hb : Below w.heap.size w w') : Prs base w' v bs ps :=
  ⟨Kd.R_below h.own hb, h.len, h.nodup, h.low, fun j h1 h2 => blk_below (h.rows j h1 h2) hb⟩
theorem row_own {base : Nat} {w : World} {b : Nat} {p : Int × Int} (hb : base ≤ b) (h : w.heap[b]? = some (.cells #[.int .i64 p.1, .int .i64 p.2] 2 (0, 0))) (ok : Nat → Prop) (hok : ok b) : Kd.R (Kd.int .i64) 2 w base ok (rowV b) (two p) :=
  Kd.R_of_own ⟨rfl, .inr ⟨b, 2, _, rfl, hb, h, Nat.le_refl _, by decide, rfl, rfl⟩⟩ (fun k hk => by
    have : b = k := by simpa [rowV, Value.ownBlock] using hk
    exact this ▸ hok)
/-- What is held so is a row of rows that lie apart. -/
theorem Prs.apart {base : Nat} {w : World} {v : Value} {bs : List Nat} {ps : List (Int × Int)} (h : Prs base w v bs ps) : Kd.S (Kd.slice 2 (Kd.int .i64)) 22 w base (fun _ => True) v (ps.map two) := by
  refine ⟨fun k => bs.idxOf k, ?_⟩
  have ho := h.own
  obtain ⟨h0, inner, hown, hreps⟩ := ho
  have hin : inner = bs.map rowV := by
    have := Kd.own_of_R (enc := rowV) (h1 := fun _ => rfl) h.own
    exact (hown.2.imp (fun e => e) (fun e => e)).elim (fun e => by
      have e2 := e.2
      have e3 : bs = [] := List.length_eq_zero_iff.1 e2
      subst e3
      have := hown.1
      simpa using this) (fun ⟨g, cap, cur, e1, _, e2, _, _, _, e3⟩ => by
      rcases this.2 with ⟨q1, _⟩ | ⟨g', cap', cur', q1, _, q2, _, _, _, q3⟩
      · rw [q1] at e1
        cases e1
      · rw [q1] at e1
        obtain ⟨rfl, rfl⟩ : g' = g ∧ cap' = cap := by simpa using e1
        rw [q2] at e2
        obtain rfl : cur' = cur := by simpa using e2
        rw [← e3]
        exact q3)
  subst hin
  have hl : ((ps.map two).zipIdx).length = bs.length := by rw [List.length_zipIdx, List.length_map, h.len]
  refine ⟨fun _ _ => trivial, bs.map rowV, by rw [hl]; exact hown, ⟨by rw [hl]; simp [Kd.tag, Kd.slice], fun j p hj => ?_⟩⟩
  obtain ⟨hjl, hp⟩ := List.getElem?_eq_some_iff.1 hj
  have hjb : j < bs.length := by rw [hl] at hjl; exact hjl
  have hjp : j < ps.length := by rw [← h.len]; exact hjb
  have hp' : p = (two ps[j], j) := by
    rw [← hp, List.getElem_zipIdx, List.getElem_map, Nat.zero_add]
  subst hp'
  have hseg : ((bs.map rowV).drop (j * 1)).take 1 = [rowV bs[j]] := by
    rw [Nat.mul_one, List.drop_eq_getElem_cons (by rw [List.length_map]; exact hjb)]
    simp
  show Kd.M (Kd.slice 2 (Kd.int .i64)) w base (fun k => (True ∧ some k ≠ v.ownBlock) ∧ bs.idxOf k = j) (two ps[j]) (((bs.map rowV).drop (j * 1)).take 1)
  rw [hseg]
  refine ⟨rowV bs[j], rfl, row_own (h.low _ (List.getElem_mem hjb)) (h.rows j hjb hjp) _ ⟨⟨trivial, fun e => ?_⟩, ?_⟩⟩
  · obtain ⟨cells, hc⟩ := Kd.R_typed h.own _ e.symm
    have := h.rows j hjb hjp
    rw [hc] at this
    have h3 : (22 : Nat) = 2 := (Obj.cells.inj (Option.some.inj this)).2.1
    exact absurd h3 (by decide)
  · exact h.nodup.idxOf_getElem j hjb
theorem Prs.reads {base : Nat} {w : World} {A : Option Addr} {n c : Nat} {bs : List Nat} {ps : List (Int × Int)} (h : Prs base w (.slice A n c) bs ps) : n = ps.length ∧ n ≤ c ∧ Kd.C (Kd.slice 2 (Kd.int .i64)) w A ps.length (ps.map two) := by
  have := Kd.S_reads' h.apart
  rw [List.length_map] at this
  exact this
theorem infoR : (Try.prog.info? 22).map (fun i => (i.zero, i.size, i.bytes)) = some (some (.slice none 0 0), 1, 24) := by kernel_rfl
set_option maxHeartbeats 8000000 in
set_option maxRecDepth 100000 in
theorem clone_calls (A0 : Option Addr) (c0 : Nat) (l0 : List Nat) (w : World) (hr0 : Kd.C Kb w A0 l0.length l0) (hc0 : l0.length ≤ c0) (hl : l0.length < 1000000) :
    Calls Try.prog 96 #[.slice A0 l0.length c0] w fun e w' => ∃ v0_ : Value, e = .returned (v0_) ∧ Kd.R Kb 22 w' w.heap.size (fun _ => True) v0_ l0 ∧ Below w.heap.size w w' := by
  have q22 : ∀ (w : World) (a : Option Addr) (n c n' c' : Nat), (binOp .eql 44 (.slice a n c) (.slice none n' c')).run Try.prog w = .ok (.bool a.isNone) w := fun w a n c n' c' => Lib.run_eql_slice_nil w _ _ a n c n' c' Try.underlying44
  have LM := Aside0.mk hl
  clear hl
  cases A0 with
  | none =>
    have hl : Aside0 (l0 = []) := ⟨by
      rcases Nat.eq_zero_or_pos l0.length with h | h
      · exact List.length_eq_zero_iff.1 h
      · obtain ⟨ad, h2, _⟩ := hr0.2.2 h
        cases h2⟩
    clear hr0
    go_enter Try.func96, Try.ntmps96
    go_wp2
    go_ret
    exact ⟨_, rfl, by rw [hl.out]; exact Kd.R_nil _ _ _ _ _, Below.refl _ _⟩
  | some a =>
    have HR0 := Aside0.mk hr0
    have HC0 := Aside0.mk hc0
    clear hr0 hc0
    have HB := Aside0.mk (Below.refl w.heap.size w)
    obtain ⟨y1, hy1⟩ : ∃ y_ : List Nat, y_ = (([] : List Nat)) := ⟨_, rfl⟩
    have N1 := Aside0.mk hy1
    clear hy1
    go_enter Try.func96, Try.ntmps96
    go_wp2_with (first | ((with_reducible refine gate_dst (N := 5) rfl ?_); refine Kd.R_lit Kb _ 22 ?hg (N := 5) ?hd (xs := ([] : List Nat)) (inner := []) (ok := fun _ => True) (okp := fun _ => True) ?hr ?hp (fun _ hk => hk) trivial (Below.refl _ _) (Nat.le_refl _) (by simp) ?_; (case hd => rfl); (case hg => rfl); (case hr => first | (go_simp; done) | (go_simp; rfl)); (case hp => exact (Reps.none _ _)); intro v510 w3 ho4 hb hg_ hnew_; clear hg_ hnew_; (first | rw [← N1.out] at ho4 | (simp only [Int.reduceToNat] at ho4; rw [← N1.out] at ho4)); have HO511 := Aside0.mk (Kd.R_lower ho4 (Nat.le_refl _)); have HB1 := Aside0.mk hb; clear hb ho4 HB) | ((with_reducible refine gate_builtin (b := .append) (xs := #[.tmp 5, .tmp 6]) rfl ?_); at_builtin; refine Kd.R_append_rows Kb (w0 := w) w.heap.size rfl (.tmp 5) (.tmp 6) 44 22 (.slice none 0 0) 24 rfl Try.underlying44 infoR rfl (by decide) (by omega) v510 y1 l0 _ _ _ (fun _ => True) (fun _ => False) rfl rfl ?aO ?aR (fun _ _ h => h) (fun _ h => h.elim) ?aF ?aB ?aS ?aL ?_; (case aR => exact (Kd.C_below HR0.out HB1.out)); (case aB => exact HB1.out); (case aF => exact (fun _ _ => trivial)); (case aO => exact HO511.out); (case aS => exact HB1.out.size); (case aL => have := LM.out; have e := N1.out; rw [e]; simp; omega); intro v513 w5 ho hb hg hat; have HB2 := Aside0.mk hb; have HO2 := Aside0.mk ho; clear HB1 HO511 ho hb hg hat))
    go_ret
    exact ⟨_, rfl, by have := HO2.out; rw [N1.out, List.nil_append] at this; exact this, HB2.out⟩
/-- A list's clone shares its rows. -/
theorem Prs.clone {base : Nat} {w w' : World} {v v' : Value} {bs : List Nat} {ps : List (Int × Int)} (h : Prs base w v bs ps) (hbase : base ≤ w.heap.size) (ho : Kd.R Kb 22 w' w.heap.size (fun _ => True) v' bs) (hb : Below w.heap.size w w') : Prs base w' v' bs ps :=
  ⟨Kd.R_lower ho hbase, h.len, h.nodup, h.low, fun j h1 h2 => blk_below (h.rows j h1 h2) hb⟩
/-- One pair more. -/
theorem Prs.more {base : Nat} {w w' : World} {v v' : Value} {bs : List Nat} {ps : List (Int × Int)} {b : Nat} {p : Int × Int} (h : Prs base w v bs ps) (ho : Kd.R Kb 22 w' base (fun _ => True) v' (bs ++ [b])) (hn : b ∉ bs) (hb : base ≤ b) (hrow : w'.heap[b]? = some (.cells #[.int .i64 p.1, .int .i64 p.2] 2 (0, 0)))
    (hold : ∀ k ∈ bs, w'.heap[k]? = w.heap[k]?) : Prs base w' v' (bs ++ [b]) (ps ++ [p]) := by
  have hl := h.len
  refine ⟨ho, by simp [h.len], List.nodup_append.2 ⟨h.nodup, by simp, fun x hx y hy e => hn (by rw [← List.mem_singleton.1 hy, ← e]; exact hx)⟩, fun x hx => ?_, fun j h1 h2 => ?_⟩
  · rcases List.mem_append.1 hx with hx | hx
    · exact h.low x hx
    · rw [List.mem_singleton.1 hx]; exact hb
  · by_cases c : j < bs.length
    · rw [List.getElem_append_left c, List.getElem_append_left (by omega)]
      exact (hold _ (List.getElem_mem c)).trans (h.rows j c (by omega))
    · have e1 : j = bs.length := by simp at h1; omega
      subst e1
      rw [List.getElem_append_right (Nat.le_refl _), List.getElem_append_right (by omega)]
      simp [hl]
      exact hrow
/-- Whether a line holds both nodes of a pair. -/
def bitB (s x : Int) : Bool := Go.bits .and .i64 (shr .i64 s x) 1 == 1
def hasP (line : Int) : List Int → Option Bool
  | [p, q] => if (0 ≤ p ∧ p ≤ 63) ∧ 0 ≤ q ∧ q ≤ 63 then some (bitB line p && bitB line q) else none
  | _ => none
theorem spot_of {w : World} {a : Addr} {v : Value} (h : w.cell? a = some v) : a.spot = none ∧ a.block < w.heap.size := by
  refine ⟨?_, World.block_lt_of_cell? w a h⟩
  unfold World.cell? at h
  split at h
  · split at h
    · cases h
    · rename_i hs
      cases hq : a.spot with
      | none => rfl
      | some q => rw [hq] at hs; exact absurd rfl hs
  · cases h
def pair1T : Bool × List (List Nat × List Nat) := (true, [([], []), ([], []), ([1], [1]), ([2], [2]), ([0, 3], [0, 3]), ([4], [4]), ([5], [5]), ([6], [6]), ([7], [7]), ([7], [7]), ([9, 7], [7, 9]), ([10, 7], [7, 10]), ([8, 11, 7], [7, 8, 11]), ([12, 7], [7, 12]), ([13, 7], [7, 13]), ([7, 14], [7, 14]), ([15, 7, 0, 1, 2, 3, 4, 5, 6, 7, 8, 9, 10, 11, 12, 13, 14, 15], [15])])
def pair1B : List Nat := [0, 0, 2, 6, 15, 31, 63, 127, 255, 255, 767, 1791, 4095, 8191, 16383, 32767, 65535]
theorem pair1_tab : rtab .any (opsOf Try.f94 1) = pair1T := by kernel_rfl
theorem pair1_bits : waitsOk pair1T.2 pair1B = true := by kernel_rfl
set_option linter.unusedSimpArgs false
set_option maxRecDepth 100000
set_option maxHeartbeats 4000000 in
theorem pair1_calls (gl : Nat) (line : Int) (w : World) (hg : w.heap[gl]? = some (.cells #[.int .i64 line] 2 (0, 0))) : PredRow w 94 #[.pointer (some ⟨gl, 0, none⟩)] (hasP line) := by
  intro A c x b W h hB hC hc
  unfold hasP at h
  split at h
  rotate_left
  · cases h
  rename_i p q
  split at h
  rotate_left
  · cases h
  rename_i hpq
  obtain ⟨⟨hp, hp2⟩, hq, hq2⟩ := hpq
  clear hp2 hq2
  have hb := Option.some.inj h
  clear h
  rw [show (#[Value.slice A [p, q].length c] ++ #[Value.pointer (some ⟨gl, 0, none⟩)] : Array Value) = #[.slice A 2 c, .pointer (some ⟨gl, 0, none⟩)] from rfl]
  obtain ⟨ad, e, hx0⟩ := Kd.at_int hC 0 (by omega) (by simp)
  obtain ⟨ad2, e2, hx1⟩ := Kd.at_int hC 1 (by omega) (by simp)
  subst e
  obtain rfl := Option.some.inj e2
  have hcl : W.cell? ⟨gl, 0, none⟩ = some (.int .i64 line) := blk_cell (blk_below hg hB) 0
  have hc0 : W.cell? ad = some (.int .i64 p) := by simpa [Addr.add, rd] using hx0
  have hs := (spot_of hc0).1
  obtain ⟨bk, o, sp⟩ := ad
  have hs2 : sp = none := hs
  subst hs2
  have hc1 : W.cell? ⟨bk, o + 1, none⟩ = some (.int .i64 q) := by simpa [Addr.add, rd] using hx1
  have HB : Aside0 (Below W.heap.size W W.drew) := ⟨below_drew (Below.refl _ _)⟩
  clear hg hB hC e2 hx0 hx1 hs
  unfold bitB at hb
  by_cases cp : (Go.bits .and .i64 (shr .i64 line p) 1 == 1) = true
  rotate_left
  · have cb : (Go.bits .and .i64 (shr .i64 line p) 1 == 1) = false := by simpa using cp
    rw [cb, Bool.false_and] at hb
    subst hb
    clear cp
    have cb2 : (Go.bits .and .i64 (line / 2 ^ min p.toNat 64) 1 == 1) = false := cb
    go_enter Try.func94, Try.ntmps94
    go_wp2_with fail
    refine start_ (n := 17) (S := (fun w' => w'.cell? ⟨gl, 0, none⟩ = some (.int .i64 line) ∧ w'.cell? ⟨bk, o, none⟩ = some (.int .i64 p) ∧ w'.cell? ⟨bk, o + 1, none⟩ = some (.int .i64 q))) (ds := []) #[false, false, false, false, false, false, false, false, false, false, false, false, false, false, false, false, false] (by kernel_rfl) rfl rfl ⟨hcl, hc0, hc1⟩ (fun hHeld => ?_); refine with_tabW pair1_tab pair1_bits (fun HT_ HW_ => ?_)
    refine take_ (i := 0) (N := some 4) (v := ?_) (a' := ?_) #[true, false, false, false, false, false, false, false, false, false, false, false, false, false, false, false, false] rfl rfl (take_ofW HT_.out HW_.out (by kernel_rfl)) (fun _ _ _ h => h) (Or.inl ⟨by rfl, ?_⟩) hHeld ?_ ?_
    rotate_left
    · rintro w' ⟨s0, s1, s2⟩
      go_simp
      with_reducible rfl
    rotate_left
    · simp only [Act.put, List.setIfInBounds_toArray, List.set_cons_zero, List.set_cons_succ, i64_w, i32_w]
      rfl
    refine pure_ (i := 1) (N := some 5) (v := ?_) (a' := ?_) #[true, true, false, false, false, false, false, false, false, false, false, false, false, false, false, false, false] rfl rfl (any_of HT_.out (by kernel_rfl)) (fun _ _ _ h => h) (Or.inl ⟨by rfl, ?_⟩) ?_ ?_
    rotate_left
    · intro w'
      go_simp
      with_reducible rfl
    rotate_left
    · simp only [Act.put, List.setIfInBounds_toArray, List.set_cons_zero, List.set_cons_succ, i64_w, i32_w]
      rfl
    refine pure_ (i := 2) (N := some 6) (v := ?_) (a' := ?_) #[true, true, true, false, false, false, false, false, false, false, false, false, false, false, false, false, false] rfl rfl (any_of HT_.out (by kernel_rfl)) (fun _ _ _ h => h) (Or.inl ⟨by rfl, ?_⟩) ?_ ?_
    rotate_left
    · intro w'
      go_simp
      with_reducible rfl
    rotate_left
    · simp only [Act.put, List.setIfInBounds_toArray, List.set_cons_zero, List.set_cons_succ, i64_w, i32_w]
      rfl
    refine take_ (i := 3) (N := some 7) (v := ?_) (a' := ?_) #[true, true, true, true, false, false, false, false, false, false, false, false, false, false, false, false, false] rfl rfl (take_ofW HT_.out HW_.out (by kernel_rfl)) (fun _ _ _ h => h) (Or.inl ⟨by rfl, ?_⟩) hHeld ?_ ?_
    rotate_left
    · rintro w' ⟨s0, s1, s2⟩
      go_simp
      with_reducible rfl
    rotate_left
    · simp only [Act.put, List.setIfInBounds_toArray, List.set_cons_zero, List.set_cons_succ, i64_w, i32_w]
      rfl
    refine pure_ (i := 4) (N := some 8) (v := ?_) (a' := ?_) #[true, true, true, true, true, false, false, false, false, false, false, false, false, false, false, false, false] rfl rfl (any_of HT_.out (by kernel_rfl)) (fun _ _ _ h => h) (Or.inl ⟨by rfl, ?_⟩) ?_ ?_
    rotate_left
    · intro w'
      go_simp
      with_reducible rfl
    rotate_left
    · simp only [Act.put, List.setIfInBounds_toArray, List.set_cons_zero, List.set_cons_succ, i64_w, i32_w]
      rfl
    refine pure_ (i := 5) (N := some 9) (v := ?_) (a' := ?_) #[true, true, true, true, true, true, false, false, false, false, false, false, false, false, false, false, false] rfl rfl (any_of HT_.out (by kernel_rfl)) (fun _ _ _ h => h) (Or.inl ⟨by rfl, ?_⟩) ?_ ?_
    rotate_left
    · intro w'
      go_simp
      with_reducible rfl
    rotate_left
    · simp only [Act.put, List.setIfInBounds_toArray, List.set_cons_zero, List.set_cons_succ, i64_w, i32_w]
      rfl
    refine pure_ (i := 6) (N := some 10) (v := ?_) (a' := ?_) #[true, true, true, true, true, true, true, false, false, false, false, false, false, false, false, false, false] rfl rfl (any_of HT_.out (by kernel_rfl)) (fun _ _ _ h => h) (Or.inl ⟨by rfl, ?_⟩) ?_ ?_
    rotate_left
    · intro w'
      go_simp
      with_reducible rfl
    rotate_left
    · simp only [Act.put, List.setIfInBounds_toArray, List.set_cons_zero, List.set_cons_succ, i64_w, i32_w]
      rfl
    refine pure_ (i := 7) (N := some 11) (v := ?_) (a' := ?_) #[true, true, true, true, true, true, true, true, false, false, false, false, false, false, false, false, false] rfl rfl (any_of HT_.out (by kernel_rfl)) (fun _ _ _ h => h) (Or.inl ⟨by rfl, ?_⟩) ?_ ?_
    rotate_left
    · intro w'
      go_simp
      with_reducible rfl
    rotate_left
    · simp only [Act.put, List.setIfInBounds_toArray, List.set_cons_zero, List.set_cons_succ, i64_w, i32_w]
      rfl
    refine pure_ (i := 8) (N := some 12) (v := undef) (a' := ?_) #[true, true, true, true, true, true, true, true, true, false, false, false, false, false, false, false, false] rfl rfl (any_of HT_.out (by kernel_rfl)) (fun _ _ _ h => h) (Or.inr ⟨by rfl, rfl⟩) ?_ ?_
    rotate_left
    · simp only [Act.put, List.setIfInBounds_toArray, List.set_cons_zero, List.set_cons_succ, i64_w, i32_w]
      rfl
    refine pure_ (i := 9) (N := some 13) (v := undef) (a' := ?_) #[true, true, true, true, true, true, true, true, true, true, false, false, false, false, false, false, false] rfl rfl (any_of HT_.out (by kernel_rfl)) (fun _ _ _ h => h) (Or.inr ⟨by rfl, rfl⟩) ?_ ?_
    rotate_left
    · simp only [Act.put, List.setIfInBounds_toArray, List.set_cons_zero, List.set_cons_succ, i64_w, i32_w]
      rfl
    refine pure_ (i := 10) (N := some 14) (v := undef) (a' := ?_) #[true, true, true, true, true, true, true, true, true, true, true, false, false, false, false, false, false] rfl rfl (any_of HT_.out (by kernel_rfl)) (fun _ _ _ h => h) (Or.inr ⟨by rfl, rfl⟩) ?_ ?_
    rotate_left
    · simp only [Act.put, List.setIfInBounds_toArray, List.set_cons_zero, List.set_cons_succ, i64_w, i32_w]
      rfl
    refine pure_ (i := 11) (N := some 15) (v := undef) (a' := ?_) #[true, true, true, true, true, true, true, true, true, true, true, true, false, false, false, false, false] rfl rfl (any_of HT_.out (by kernel_rfl)) (fun _ _ _ h => h) (Or.inr ⟨by rfl, rfl⟩) ?_ ?_
    rotate_left
    · simp only [Act.put, List.setIfInBounds_toArray, List.set_cons_zero, List.set_cons_succ, i64_w, i32_w]
      rfl
    refine pure_ (i := 12) (N := some 16) (v := undef) (a' := ?_) #[true, true, true, true, true, true, true, true, true, true, true, true, true, false, false, false, false] rfl rfl (any_of HT_.out (by kernel_rfl)) (fun _ _ _ h => h) (Or.inr ⟨by rfl, rfl⟩) ?_ ?_
    rotate_left
    · simp only [Act.put, List.setIfInBounds_toArray, List.set_cons_zero, List.set_cons_succ, i64_w, i32_w]
      rfl
    refine pure_ (i := 13) (N := some 17) (v := undef) (a' := ?_) #[true, true, true, true, true, true, true, true, true, true, true, true, true, true, false, false, false] rfl rfl (any_of HT_.out (by kernel_rfl)) (fun _ _ _ h => h) (Or.inr ⟨by rfl, rfl⟩) ?_ ?_
    rotate_left
    · simp only [Act.put, List.setIfInBounds_toArray, List.set_cons_zero, List.set_cons_succ, i64_w, i32_w]
      rfl
    refine pure_ (i := 14) (N := some 18) (v := undef) (a' := ?_) #[true, true, true, true, true, true, true, true, true, true, true, true, true, true, true, false, false] rfl rfl (any_of HT_.out (by kernel_rfl)) (fun _ _ _ h => h) (Or.inr ⟨by rfl, rfl⟩) ?_ ?_
    rotate_left
    · simp only [Act.put, List.setIfInBounds_toArray, List.set_cons_zero, List.set_cons_succ, i64_w, i32_w]
      rfl
    refine pure_ (i := 15) (N := some 19) (v := ?_) (a' := ?_) #[true, true, true, true, true, true, true, true, true, true, true, true, true, true, true, true, false] rfl rfl (any_of HT_.out (by kernel_rfl)) (fun _ _ _ h => h) (Or.inl ⟨by rfl, ?_⟩) ?_ ?_
    rotate_left
    · intro w'
      go_simp
      with_reducible rfl
    rotate_left
    · simp only [Act.put, List.setIfInBounds_toArray, List.set_cons_zero, List.set_cons_succ, i64_w, i32_w]
      rfl
    refine pure_ (i := 16) (N := some 3) (v := ?_) (a' := ?_) #[true, true, true, true, true, true, true, true, true, true, true, true, true, true, true, true, true] rfl rfl (any_of HT_.out (by kernel_rfl)) (fun _ _ _ h => h) (Or.inl ⟨by rfl, ?_⟩) ?_ ?_
    rotate_left
    · intro w'
      go_simp
      with_reducible rfl
    rotate_left
    · simp only [Act.put, List.setIfInBounds_toArray, List.set_cons_zero, List.set_cons_succ, i64_w, i32_w]
      rfl
    refine done_ (done_of HT_.out (by kernel_rfl)) ?_
    go_wp2
    go_ret
    exact ⟨rfl, HB.out⟩
  · rw [cp, Bool.true_and] at hb
    subst hb
    have cb2 : (Go.bits .and .i64 (line / 2 ^ min p.toNat 64) 1 == 1) = true := cp
    go_enter Try.func94, Try.ntmps94
    go_wp2_with fail
    refine start_ (n := 17) (S := (fun w' => w'.cell? ⟨gl, 0, none⟩ = some (.int .i64 line) ∧ w'.cell? ⟨bk, o, none⟩ = some (.int .i64 p) ∧ w'.cell? ⟨bk, o + 1, none⟩ = some (.int .i64 q))) (ds := []) #[false, false, false, false, false, false, false, false, false, false, false, false, false, false, false, false, false] (by kernel_rfl) rfl rfl ⟨hcl, hc0, hc1⟩ (fun hHeld => ?_); refine with_tabW pair1_tab pair1_bits (fun HT_ HW_ => ?_)
    refine take_ (i := 0) (N := some 4) (v := ?_) (a' := ?_) #[true, false, false, false, false, false, false, false, false, false, false, false, false, false, false, false, false] rfl rfl (take_ofW HT_.out HW_.out (by kernel_rfl)) (fun _ _ _ h => h) (Or.inl ⟨by rfl, ?_⟩) hHeld ?_ ?_
    rotate_left
    · rintro w' ⟨s0, s1, s2⟩
      go_simp
      with_reducible rfl
    rotate_left
    · simp only [Act.put, List.setIfInBounds_toArray, List.set_cons_zero, List.set_cons_succ, i64_w, i32_w]
      rfl
    refine pure_ (i := 1) (N := some 5) (v := ?_) (a' := ?_) #[true, true, false, false, false, false, false, false, false, false, false, false, false, false, false, false, false] rfl rfl (any_of HT_.out (by kernel_rfl)) (fun _ _ _ h => h) (Or.inl ⟨by rfl, ?_⟩) ?_ ?_
    rotate_left
    · intro w'
      go_simp
      with_reducible rfl
    rotate_left
    · simp only [Act.put, List.setIfInBounds_toArray, List.set_cons_zero, List.set_cons_succ, i64_w, i32_w]
      rfl
    refine pure_ (i := 2) (N := some 6) (v := ?_) (a' := ?_) #[true, true, true, false, false, false, false, false, false, false, false, false, false, false, false, false, false] rfl rfl (any_of HT_.out (by kernel_rfl)) (fun _ _ _ h => h) (Or.inl ⟨by rfl, ?_⟩) ?_ ?_
    rotate_left
    · intro w'
      go_simp
      with_reducible rfl
    rotate_left
    · simp only [Act.put, List.setIfInBounds_toArray, List.set_cons_zero, List.set_cons_succ, i64_w, i32_w]
      rfl
    refine take_ (i := 3) (N := some 7) (v := ?_) (a' := ?_) #[true, true, true, true, false, false, false, false, false, false, false, false, false, false, false, false, false] rfl rfl (take_ofW HT_.out HW_.out (by kernel_rfl)) (fun _ _ _ h => h) (Or.inl ⟨by rfl, ?_⟩) hHeld ?_ ?_
    rotate_left
    · rintro w' ⟨s0, s1, s2⟩
      go_simp
      with_reducible rfl
    rotate_left
    · simp only [Act.put, List.setIfInBounds_toArray, List.set_cons_zero, List.set_cons_succ, i64_w, i32_w]
      rfl
    refine pure_ (i := 4) (N := some 8) (v := ?_) (a' := ?_) #[true, true, true, true, true, false, false, false, false, false, false, false, false, false, false, false, false] rfl rfl (any_of HT_.out (by kernel_rfl)) (fun _ _ _ h => h) (Or.inl ⟨by rfl, ?_⟩) ?_ ?_
    rotate_left
    · intro w'
      go_simp
      with_reducible rfl
    rotate_left
    · simp only [Act.put, List.setIfInBounds_toArray, List.set_cons_zero, List.set_cons_succ, i64_w, i32_w]
      rfl
    refine pure_ (i := 5) (N := some 9) (v := ?_) (a' := ?_) #[true, true, true, true, true, true, false, false, false, false, false, false, false, false, false, false, false] rfl rfl (any_of HT_.out (by kernel_rfl)) (fun _ _ _ h => h) (Or.inl ⟨by rfl, ?_⟩) ?_ ?_
    rotate_left
    · intro w'
      go_simp
      with_reducible rfl
    rotate_left
    · simp only [Act.put, List.setIfInBounds_toArray, List.set_cons_zero, List.set_cons_succ, i64_w, i32_w]
      rfl
    refine pure_ (i := 6) (N := some 10) (v := ?_) (a' := ?_) #[true, true, true, true, true, true, true, false, false, false, false, false, false, false, false, false, false] rfl rfl (any_of HT_.out (by kernel_rfl)) (fun _ _ _ h => h) (Or.inl ⟨by rfl, ?_⟩) ?_ ?_
    rotate_left
    · intro w'
      go_simp
      with_reducible rfl
    rotate_left
    · simp only [Act.put, List.setIfInBounds_toArray, List.set_cons_zero, List.set_cons_succ, i64_w, i32_w]
      rfl
    refine pure_ (i := 7) (N := some 11) (v := ?_) (a' := ?_) #[true, true, true, true, true, true, true, true, false, false, false, false, false, false, false, false, false] rfl rfl (any_of HT_.out (by kernel_rfl)) (fun _ _ _ h => h) (Or.inl ⟨by rfl, ?_⟩) ?_ ?_
    rotate_left
    · intro w'
      go_simp
      with_reducible rfl
    rotate_left
    · simp only [Act.put, List.setIfInBounds_toArray, List.set_cons_zero, List.set_cons_succ, i64_w, i32_w]
      rfl
    refine take_ (i := 8) (N := some 12) (v := ?_) (a' := ?_) #[true, true, true, true, true, true, true, true, true, false, false, false, false, false, false, false, false] rfl rfl (take_ofW HT_.out HW_.out (by kernel_rfl)) (fun _ _ _ h => h) (Or.inl ⟨by rfl, ?_⟩) hHeld ?_ ?_
    rotate_left
    · rintro w' ⟨s0, s1, s2⟩
      go_simp
      with_reducible rfl
    rotate_left
    · simp only [Act.put, List.setIfInBounds_toArray, List.set_cons_zero, List.set_cons_succ, i64_w, i32_w]
      rfl
    refine pure_ (i := 9) (N := some 13) (v := ?_) (a' := ?_) #[true, true, true, true, true, true, true, true, true, true, false, false, false, false, false, false, false] rfl rfl (any_of HT_.out (by kernel_rfl)) (fun _ _ _ h => h) (Or.inl ⟨by rfl, ?_⟩) ?_ ?_
    rotate_left
    · intro w'
      go_simp
      with_reducible rfl
    rotate_left
    · simp only [Act.put, List.setIfInBounds_toArray, List.set_cons_zero, List.set_cons_succ, i64_w, i32_w]
      rfl
    refine pure_ (i := 10) (N := some 14) (v := ?_) (a' := ?_) #[true, true, true, true, true, true, true, true, true, true, true, false, false, false, false, false, false] rfl rfl (any_of HT_.out (by kernel_rfl)) (fun _ _ _ h => h) (Or.inl ⟨by rfl, ?_⟩) ?_ ?_
    rotate_left
    · intro w'
      go_simp
      with_reducible rfl
    rotate_left
    · simp only [Act.put, List.setIfInBounds_toArray, List.set_cons_zero, List.set_cons_succ, i64_w, i32_w]
      rfl
    refine take_ (i := 11) (N := some 15) (v := ?_) (a' := ?_) #[true, true, true, true, true, true, true, true, true, true, true, true, false, false, false, false, false] rfl rfl (take_ofW HT_.out HW_.out (by kernel_rfl)) (fun _ _ _ h => h) (Or.inl ⟨by rfl, ?_⟩) hHeld ?_ ?_
    rotate_left
    · rintro w' ⟨s0, s1, s2⟩
      go_simp
      with_reducible rfl
    rotate_left
    · simp only [Act.put, List.setIfInBounds_toArray, List.set_cons_zero, List.set_cons_succ, i64_w, i32_w]
      rfl
    refine pure_ (i := 12) (N := some 16) (v := ?_) (a' := ?_) #[true, true, true, true, true, true, true, true, true, true, true, true, true, false, false, false, false] rfl rfl (any_of HT_.out (by kernel_rfl)) (fun _ _ _ h => h) (Or.inl ⟨by rfl, ?_⟩) ?_ ?_
    rotate_left
    · intro w'
      go_simp
      with_reducible rfl
    rotate_left
    · simp only [Act.put, List.setIfInBounds_toArray, List.set_cons_zero, List.set_cons_succ, i64_w, i32_w]
      rfl
    refine pure_ (i := 13) (N := some 17) (v := ?_) (a' := ?_) #[true, true, true, true, true, true, true, true, true, true, true, true, true, true, false, false, false] rfl rfl (any_of HT_.out (by kernel_rfl)) (fun _ _ _ h => h) (Or.inl ⟨by rfl, ?_⟩) ?_ ?_
    rotate_left
    · intro w'
      go_simp
      with_reducible rfl
    rotate_left
    · simp only [Act.put, List.setIfInBounds_toArray, List.set_cons_zero, List.set_cons_succ, i64_w, i32_w]
      rfl
    refine pure_ (i := 14) (N := some 18) (v := ?_) (a' := ?_) #[true, true, true, true, true, true, true, true, true, true, true, true, true, true, true, false, false] rfl rfl (any_of HT_.out (by kernel_rfl)) (fun _ _ _ h => h) (Or.inl ⟨by rfl, ?_⟩) ?_ ?_
    rotate_left
    · intro w'
      go_simp
      with_reducible rfl
    rotate_left
    · simp only [Act.put, List.setIfInBounds_toArray, List.set_cons_zero, List.set_cons_succ, i64_w, i32_w]
      rfl
    refine pure_ (i := 15) (N := some 19) (v := ?_) (a' := ?_) #[true, true, true, true, true, true, true, true, true, true, true, true, true, true, true, true, false] rfl rfl (any_of HT_.out (by kernel_rfl)) (fun _ _ _ h => h) (Or.inl ⟨by rfl, ?_⟩) ?_ ?_
    rotate_left
    · intro w'
      go_simp
      with_reducible rfl
    rotate_left
    · simp only [Act.put, List.setIfInBounds_toArray, List.set_cons_zero, List.set_cons_succ, i64_w, i32_w]
      rfl
    refine pure_ (i := 16) (N := some 3) (v := ?_) (a' := ?_) #[true, true, true, true, true, true, true, true, true, true, true, true, true, true, true, true, true] rfl rfl (any_of HT_.out (by kernel_rfl)) (fun _ _ _ h => h) (Or.inl ⟨by rfl, ?_⟩) ?_ ?_
    rotate_left
    · intro w'
      go_simp
      with_reducible rfl
    rotate_left
    · simp only [Act.put, List.setIfInBounds_toArray, List.set_cons_zero, List.set_cons_succ, i64_w, i32_w]
      rfl
    refine done_ (done_of HT_.out (by kernel_rfl)) ?_

    go_wp2
    go_ret
    exact ⟨rfl, HB.out⟩
end Go.Proofs.Ytjeiifiacjhfoaa.Q
