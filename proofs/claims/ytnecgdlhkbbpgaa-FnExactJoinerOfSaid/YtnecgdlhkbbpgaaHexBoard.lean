/-
  The closures of the program's search on a hex board, and the world in which the search goes. The board within memory's reach.
-/
import Derived.Test.YtnecgdlhkbbpgaaHexNeed
import Derived.Test.YtnecgdlhkbbpgaaTabRange
import Derived.Test.YtnecgdlhkbbpgaaQ9
import Derived.Test.YtnecgdlhkbbpgaaQ4
import Derived.Test.YtnecgdlhkbbpgaaQ2
namespace Go.Proofs.Ytnecgdlhkbbpgaa.Q
open Go.RowKit Go.Proofs.YtnecgdlhkbbpgaaW.PrintWords Go.Proofs.YtnecgdlhkbbpgaaW.PrintLast Go.Proofs.YtnecgdlhkbbpgaaW.PrintMore
open Go.Maps (Keyed)
open Go.Proofs.Ytnecgdlhkbbpgaa.B

theorem TabM.look_none {P : Program} {k : TypeId} {α β : Type} {mkK : α → Value} {mkV : β → Value} {f : α → Option β} {w : World} {b : Nat} {t e : TypeId} (h : TabM P k mkK mkV f w b) (K : Keyed P k) (ht : P.underlying t = some (.map k e)) {z : Value} (hz : (zeroValue e).run P w = .ok z w) (hinj : ∀ a a', mkK a = mkK a' → a = a') (a : α) (hkey : ∃ kl, keyOf P k (mkK a) = some kl) (hf : f a = none) :
    (Instr.lookup t (.map (some b)) (mkK a) true).run P w = .ok (.tuple #[z, .bool false]) w := by
  obtain ⟨es, clock, hb, F, h1, h2⟩ := h
  obtain ⟨kl, hkl⟩ := hkey
  rcases Maps.fit_look true K ht hz hb F hkl with ⟨hrun, _⟩ | ⟨e0, y, he, hk, hrun, _⟩
  · exact hrun
  · obtain ⟨a', c, e1, e2, e3⟩ := h1 e0 he
    obtain rfl := hinj a' a (e1.symm.trans hk)
    rw [hf] at e3
    cases e3
theorem TabM.look_some {P : Program} {k : TypeId} {α β : Type} {mkK : α → Value} {mkV : β → Value} {f : α → Option β} {w : World} {b : Nat} {t e : TypeId} (h : TabM P k mkK mkV f w b) (K : Keyed P k) (ht : P.underlying t = some (.map k e)) {z : Value} (hz : (zeroValue e).run P w = .ok z w) (hinj : ∀ a a', mkK a = mkK a' → a = a') (a : α) (hkey : ∃ kl, keyOf P k (mkK a) = some kl) (c : β) (hf : f a = some c) :
    (Instr.lookup t (.map (some b)) (mkK a) true).run P w = .ok (.tuple #[mkV c, .bool true]) w := by
  obtain ⟨es, clock, hb, F, h1, h2⟩ := h
  obtain ⟨kl, hkl⟩ := hkey
  rcases Maps.fit_look true K ht hz hb F hkl with ⟨_, hno, _⟩ | ⟨e0, y, he, hk, hrun, _⟩
  · obtain ⟨x, hx, hxk, _⟩ := h2 a c hf
    exact absurd hxk (hno x hx)
  · obtain ⟨a', c', e1, e2, e3⟩ := h1 e0 he
    obtain rfl := hinj a' a (e1.symm.trans hk)
    rw [hf] at e3
    obtain rfl := Option.some.inj e3
    rw [hrun, e2]
    rfl
theorem grown_fromX {w0 w1 w2 : World} {b : Nat} (h : Below w0.heap.size w0 w1) (hb : w0.heap.size ≤ b) (hg : w1.grownBy w2 (some b)) : Below w0.heap.size w0 w2 :=
  ⟨hg.os.trans h.os, hg.tape.trans h.tape, hg.output.trans h.output, Nat.le_trans h.size hg.size, fun k hk => (hg.block k (Nat.lt_of_lt_of_le hk h.size) (by intro e; injection e with e; omega)).trans (h.block k hk)⟩
theorem intLaw : Keyed Try.prog 2 := Go.Maps.int_keyed Try.underlying2
theorem int_inj (a b : Int) (h : Value.int .i64 a = Value.int .i64 b) : a = b := by
  injection h
theorem int_key (c : Int) (n : Nat) (h0 : 0 ≤ c) (h1 : c < n) (hn : n ≤ 64) : ∃ kl, keyOf Try.prog 2 (.int .i64 c) = some kl :=
  ⟨_, Go.Maps.keyOf_int_mk Try.underlying2 (by
    have := wrap64_wf c
    rwa [wrap_in (by omega) (by omega)] at this)⟩
theorem line_eq (a : Int) (l : List Int) (p c : Int) (ha : a ≠ 0) : impl_Hex_line.f a l p c = some (lineI a p c) := by
  unfold impl_Hex_line.f lineI
  rw [if_neg ha, if_neg ha]
  split <;> rfl
/-- The variables that the closures capture. -/
structure BoardS (w0 : World) (a : Int) (A0 : Option Addr) (n c0 : Nat) (p : Int) (gx gp : Nat) (w : World) : Prop where
  board : w.heap[gx]? = some (.cells #[.int .i64 a, .slice A0 n c0] 32 (0, 0))
  player : w.heap[gp]? = some (.cells #[.int .i64 p] 2 (0, 0))
  below : Below w0.heap.size w0 w
theorem BoardS.step {w0 : World} {a : Int} {A0 : Option Addr} {n c0 : Nat} {p : Int} {gx gp : Nat} {w w' : World} (h : Aside0 (BoardS w0 a A0 n c0 p gx gp w)) (hb : Below w.heap.size w w') : Aside0 (BoardS w0 a A0 n c0 p gx gp w') :=
  ⟨blk_below h.out.board hb, blk_below h.out.player hb, below_then h.out.below h.out.below.size hb⟩
theorem BoardS.turned {w0 : World} {a : Int} {A0 : Option Addr} {n c0 : Nat} {p : Int} {gx gp b : Nat} {w w' : World} {f : FarI} (h : Aside0 (BoardS w0 a A0 n c0 p gx gp w)) (ht : TabM Try.prog 2 (Value.int .i64) (Value.int .i64) f w b) (hg : w.grownBy w' (some b)) (hb : w0.heap.size ≤ b) : Aside0 (BoardS w0 a A0 n c0 p gx gp w') :=
  ⟨blk_grown h.out.board hg (ht.ne h.out.board), blk_grown h.out.player hg (ht.ne h.out.player), grown_fromX h.out.below hb hg⟩
set_option linter.unusedVariables false
set_option linter.unusedSimpArgs false
set_option maxRecDepth 100000
set_option maxHeartbeats 4000000 in
theorem cost_calls (w0 : World) (a : Int) (A0 : Option Addr) (c0 : Nat) (p : Int) (gx gp : Nat) (l : List Int) (c : Int) (W : World) (hr : Kd.C (Kd.int .i64) W A0 l.length l) (hc : l.length ≤ c0) (HS : Aside0 (BoardS w0 a A0 l.length c0 p gx gp W)) (h0 : 0 ≤ c) (h1 : c < (l.length : Int)) :
    Calls Try.prog 55 (#[.int .i64 c] ++ #[.pointer (some ⟨gx, 0, none⟩)]) W fun e w' => e = .returned (.int .i64 (costI l c)) ∧ Below W.heap.size W w' := by
  rw [show (#[Value.int .i64 c] ++ #[Value.pointer (some ⟨gx, 0, none⟩)] : Array Value) = #[.int .i64 c, .pointer (some ⟨gx, 0, none⟩)] from rfl]
  obtain ⟨ad, e, hx⟩ := Kd.at_int hr c h0 h1
  subst e
  have hc1 : W.cell? ⟨gx, 1, none⟩ = some (.slice (some ad) l.length c0) := blk_cell HS.out.board 1
  have hu := Try.underlying32
  have hbit : ∀ b : Bool, impl_bit.f b = some (if b = true then 1 else 0) := fun b => by unfold impl_bit.f; cases b <;> rfl
  unfold costI
  generalize rd l c = v at hx
  clear HS
  by_cases hv : v = 0
  · subst hv
    rw [if_pos rfl]
    go_enter Try.func55, Try.ntmps55
    go_wp2_with (go_at_call 53; refine (impl_bit.calls true 1 _ rfl).mono ?_; rintro e w' ⟨rfl, nd, rfl⟩)
    go_ret
    exact ⟨rfl, pw_below_drewN (Below.refl _ _) _⟩
  · rw [if_neg hv]
    have hv0 : (v == 0) = false := beq_eq_false_iff_ne.mpr hv
    go_enter Try.func55, Try.ntmps55
    go_wp2_with (go_at_call 53; refine (impl_bit.calls false 0 _ rfl).mono ?_; rintro e w' ⟨rfl, nd, rfl⟩)
    go_ret
    exact ⟨rfl, pw_below_drewN (Below.refl _ _) _⟩
def open1T : Bool × List (List Nat × List Nat) := (true, [([], []), ([0], [0]), ([], []), ([1, 2], [1, 2]), ([3], [3]), ([4], [4]), ([5], [5]), ([6], [6]), ([7, 6], [6, 7]), ([6], [6]), ([8, 9, 6], [6, 8, 9]), ([10, 6], [6, 10]), ([6], [6]), ([11, 12, 6], [6, 11, 12]), ([6, 13], [6, 13]), ([14, 6, 0, 1, 2, 3, 4, 5, 6, 7, 8, 9, 10, 11, 12, 13, 14], [14])])
def open1B : List Nat := [0, 1, 0, 7, 15, 31, 63, 127, 255, 127, 1023, 2047, 127, 8191, 16383, 32767]
theorem open1_tab : rtab .any (opsOf Try.f56 1) = open1T := by kernel_rfl
theorem open1_bits : waitsOk open1T.2 open1B = true := by kernel_rfl
set_option maxRecDepth 100000
set_option maxHeartbeats 4000000 in
theorem open_calls (w0 : World) (a : Int) (A0 : Option Addr) (c0 : Nat) (p : Int) (gx gp : Nat) (l : List Int) (c : Int) (W : World) (hr : Kd.C (Kd.int .i64) W A0 l.length l) (hc : l.length ≤ c0) (HS : Aside0 (BoardS w0 a A0 l.length c0 p gx gp W)) (h0 : 0 ≤ c) (h1 : c < (l.length : Int)) (r : Bool) (hr0 : openI l p c = r) :
    Calls Try.prog 56 (#[.int .i64 c] ++ #[.pointer (some ⟨gx, 0, none⟩), .pointer (some ⟨gp, 0, none⟩)]) W fun e w' => e = .returned (.bool r) ∧ Below W.heap.size W w' := by
  rw [show (#[Value.int .i64 c] ++ #[Value.pointer (some ⟨gx, 0, none⟩), .pointer (some ⟨gp, 0, none⟩)] : Array Value) = #[.int .i64 c, .pointer (some ⟨gx, 0, none⟩), .pointer (some ⟨gp, 0, none⟩)] from rfl]
  obtain ⟨ad, e, hx⟩ := Kd.at_int hr c h0 h1
  subst e
  have hc1 : W.cell? ⟨gx, 1, none⟩ = some (.slice (some ad) l.length c0) := blk_cell HS.out.board 1
  have hcp : W.cell? ⟨gp, 0, none⟩ = some (.int .i64 p) := blk_cell HS.out.player 0
  have hu := Try.underlying32
  have HB : Aside0 (Below W.heap.size W W.drew) := ⟨below_drew (Below.refl _ _)⟩
  unfold openI at hr0
  generalize rd l c = v at hx hr0
  clear HS
  by_cases hv : v = 0
  · subst hv
    obtain rfl : true = r := by simpa using hr0
    clear hr0
    go_enter Try.func56, Try.ntmps56
    go_wp2_with fail
    refine start_ (n := 16) (S := (fun w' => w'.cell? ⟨gx, 1, none⟩ = some (.slice (some ad) l.length c0) ∧ w'.cell? (ad.add c.toNat) = some (.int .i64 0) ∧ w'.cell? ⟨gp, 0, none⟩ = some (.int .i64 p))) (ds := []) #[false, false, false, false, false, false, false, false, false, false, false, false, false, false, false, false] (by kernel_rfl) rfl rfl ⟨hc1, hx, hcp⟩ (fun hHeld => ?_); refine with_tabW open1_tab open1_bits (fun HT_ HW_ => ?_)
    refine pure_ (i := 0) (N := some 5) (v := ?_) (a' := ?_) #[true, false, false, false, false, false, false, false, false, false, false, false, false, false, false, false] rfl rfl (any_of HT_.out (by kernel_rfl)) (fun _ _ _ h => h) (Or.inl ⟨by rfl, ?_⟩) ?_ ?_
    rotate_left
    · intro w'
      go_simp
      with_reducible rfl
    rotate_left
    · simp only [Act.put, List.setIfInBounds_toArray, List.set_cons_zero, List.set_cons_succ, i64_w, i32_w]
      rfl
    refine take_ (i := 1) (N := some 6) (v := ?_) (a' := ?_) #[true, true, false, false, false, false, false, false, false, false, false, false, false, false, false, false] rfl rfl (take_ofW HT_.out HW_.out (by kernel_rfl)) (fun _ _ _ h => h) (Or.inl ⟨by rfl, ?_⟩) hHeld ?_ ?_
    rotate_left
    · rintro w' ⟨s0, s1, s2⟩
      go_simp
      with_reducible rfl
    rotate_left
    · simp only [Act.put, List.setIfInBounds_toArray, List.set_cons_zero, List.set_cons_succ, i64_w, i32_w]
      rfl
    refine pure_ (i := 2) (N := some 7) (v := ?_) (a' := ?_) #[true, true, true, false, false, false, false, false, false, false, false, false, false, false, false, false] rfl rfl (any_of HT_.out (by kernel_rfl)) (fun _ _ _ h => h) (Or.inl ⟨by rfl, ?_⟩) ?_ ?_
    rotate_left
    · intro w'
      go_simp
      with_reducible rfl
    rotate_left
    · simp only [Act.put, List.setIfInBounds_toArray, List.set_cons_zero, List.set_cons_succ, i64_w, i32_w]
      rfl
    refine pure_ (i := 3) (N := some 8) (v := ?_) (a' := ?_) #[true, true, true, true, false, false, false, false, false, false, false, false, false, false, false, false] rfl rfl (any_of HT_.out (by kernel_rfl)) (fun _ _ _ h => h) (Or.inl ⟨by rfl, ?_⟩) ?_ ?_
    rotate_left
    · intro w'
      go_simp
      with_reducible rfl
    rotate_left
    · simp only [Act.put, List.setIfInBounds_toArray, List.set_cons_zero, List.set_cons_succ, i64_w, i32_w]
      rfl
    refine take_ (i := 4) (N := some 9) (v := ?_) (a' := ?_) #[true, true, true, true, true, false, false, false, false, false, false, false, false, false, false, false] rfl rfl (take_ofW HT_.out HW_.out (by kernel_rfl)) (fun _ _ _ h => h) (Or.inl ⟨by rfl, ?_⟩) hHeld ?_ ?_
    rotate_left
    · rintro w' ⟨s0, s1, s2⟩
      go_simp
      with_reducible rfl
    rotate_left
    · simp only [Act.put, List.setIfInBounds_toArray, List.set_cons_zero, List.set_cons_succ, i64_w, i32_w]
      rfl
    refine pure_ (i := 5) (N := some 10) (v := ?_) (a' := ?_) #[true, true, true, true, true, true, false, false, false, false, false, false, false, false, false, false] rfl rfl (any_of HT_.out (by kernel_rfl)) (fun _ _ _ h => h) (Or.inl ⟨by rfl, ?_⟩) ?_ ?_
    rotate_left
    · intro w'
      go_simp
      with_reducible rfl
    rotate_left
    · simp only [Act.put, List.setIfInBounds_toArray, List.set_cons_zero, List.set_cons_succ, i64_w, i32_w]
      rfl
    refine pure_ (i := 6) (N := some 11) (v := ?_) (a' := ?_) #[true, true, true, true, true, true, true, false, false, false, false, false, false, false, false, false] rfl rfl (any_of HT_.out (by kernel_rfl)) (fun _ _ _ h => h) (Or.inl ⟨by rfl, ?_⟩) ?_ ?_
    rotate_left
    · intro w'
      go_simp
      with_reducible rfl
    rotate_left
    · simp only [Act.put, List.setIfInBounds_toArray, List.set_cons_zero, List.set_cons_succ, i64_w, i32_w]
      rfl
    refine pure_ (i := 7) (N := some 12) (v := undef) (a' := ?_) #[true, true, true, true, true, true, true, true, false, false, false, false, false, false, false, false] rfl rfl (any_of HT_.out (by kernel_rfl)) (fun _ _ _ h => h) (Or.inr ⟨by rfl, rfl⟩) ?_ ?_
    rotate_left
    · simp only [Act.put, List.setIfInBounds_toArray, List.set_cons_zero, List.set_cons_succ, i64_w, i32_w]
      rfl
    refine pure_ (i := 8) (N := some 13) (v := undef) (a' := ?_) #[true, true, true, true, true, true, true, true, true, false, false, false, false, false, false, false] rfl rfl (any_of HT_.out (by kernel_rfl)) (fun _ _ _ h => h) (Or.inr ⟨by rfl, rfl⟩) ?_ ?_
    rotate_left
    · simp only [Act.put, List.setIfInBounds_toArray, List.set_cons_zero, List.set_cons_succ, i64_w, i32_w]
      rfl
    refine pure_ (i := 9) (N := some 14) (v := undef) (a' := ?_) #[true, true, true, true, true, true, true, true, true, true, false, false, false, false, false, false] rfl rfl (any_of HT_.out (by kernel_rfl)) (fun _ _ _ h => h) (Or.inr ⟨by rfl, rfl⟩) ?_ ?_
    rotate_left
    · simp only [Act.put, List.setIfInBounds_toArray, List.set_cons_zero, List.set_cons_succ, i64_w, i32_w]
      rfl
    refine pure_ (i := 10) (N := some 15) (v := undef) (a' := ?_) #[true, true, true, true, true, true, true, true, true, true, true, false, false, false, false, false] rfl rfl (any_of HT_.out (by kernel_rfl)) (fun _ _ _ h => h) (Or.inr ⟨by rfl, rfl⟩) ?_ ?_
    rotate_left
    · simp only [Act.put, List.setIfInBounds_toArray, List.set_cons_zero, List.set_cons_succ, i64_w, i32_w]
      rfl
    refine pure_ (i := 11) (N := some 16) (v := undef) (a' := ?_) #[true, true, true, true, true, true, true, true, true, true, true, true, false, false, false, false] rfl rfl (any_of HT_.out (by kernel_rfl)) (fun _ _ _ h => h) (Or.inr ⟨by rfl, rfl⟩) ?_ ?_
    rotate_left
    · simp only [Act.put, List.setIfInBounds_toArray, List.set_cons_zero, List.set_cons_succ, i64_w, i32_w]
      rfl
    refine pure_ (i := 12) (N := some 17) (v := undef) (a' := ?_) #[true, true, true, true, true, true, true, true, true, true, true, true, true, false, false, false] rfl rfl (any_of HT_.out (by kernel_rfl)) (fun _ _ _ h => h) (Or.inr ⟨by rfl, rfl⟩) ?_ ?_
    rotate_left
    · simp only [Act.put, List.setIfInBounds_toArray, List.set_cons_zero, List.set_cons_succ, i64_w, i32_w]
      rfl
    refine pure_ (i := 13) (N := some 18) (v := undef) (a' := ?_) #[true, true, true, true, true, true, true, true, true, true, true, true, true, true, false, false] rfl rfl (any_of HT_.out (by kernel_rfl)) (fun _ _ _ h => h) (Or.inr ⟨by rfl, rfl⟩) ?_ ?_
    rotate_left
    · simp only [Act.put, List.setIfInBounds_toArray, List.set_cons_zero, List.set_cons_succ, i64_w, i32_w]
      rfl
    refine pure_ (i := 14) (N := some 19) (v := ?_) (a' := ?_) #[true, true, true, true, true, true, true, true, true, true, true, true, true, true, true, false] rfl rfl (any_of HT_.out (by kernel_rfl)) (fun _ _ _ h => h) (Or.inl ⟨by rfl, ?_⟩) ?_ ?_
    rotate_left
    · intro w'
      go_simp
      with_reducible rfl
    rotate_left
    · simp only [Act.put, List.setIfInBounds_toArray, List.set_cons_zero, List.set_cons_succ, i64_w, i32_w]
      rfl
    refine pure_ (i := 15) (N := some 4) (v := ?_) (a' := ?_) #[true, true, true, true, true, true, true, true, true, true, true, true, true, true, true, true] rfl rfl (any_of HT_.out (by kernel_rfl)) (fun _ _ _ h => h) (Or.inl ⟨by rfl, ?_⟩) ?_ ?_
    rotate_left
    · intro w'
      go_simp
      with_reducible rfl
    rotate_left
    · simp only [Act.put, List.setIfInBounds_toArray, List.set_cons_zero, List.set_cons_succ, i64_w, i32_w]
      rfl
    refine done_ (done_of HT_.out (by kernel_rfl)) ?_
    go_wp2
    go_ret
    exact ⟨rfl, HB.out⟩
  · have hv0 : (v == 0) = false := beq_eq_false_iff_ne.mpr hv
    obtain rfl : (v == p) = r := by rw [← hr0]; simp [hv]; rfl
    go_enter Try.func56, Try.ntmps56
    go_wp2_with fail
    refine start_ (n := 16) (S := (fun w' => w'.cell? ⟨gx, 1, none⟩ = some (.slice (some ad) l.length c0) ∧ w'.cell? (ad.add c.toNat) = some (.int .i64 v) ∧ w'.cell? ⟨gp, 0, none⟩ = some (.int .i64 p))) (ds := []) #[false, false, false, false, false, false, false, false, false, false, false, false, false, false, false, false] (by kernel_rfl) rfl rfl ⟨hc1, hx, hcp⟩ (fun hHeld => ?_); refine with_tabW open1_tab open1_bits (fun HT_ HW_ => ?_)
    refine pure_ (i := 0) (N := some 5) (v := ?_) (a' := ?_) #[true, false, false, false, false, false, false, false, false, false, false, false, false, false, false, false] rfl rfl (any_of HT_.out (by kernel_rfl)) (fun _ _ _ h => h) (Or.inl ⟨by rfl, ?_⟩) ?_ ?_
    rotate_left
    · intro w'
      go_simp
      with_reducible rfl
    rotate_left
    · simp only [Act.put, List.setIfInBounds_toArray, List.set_cons_zero, List.set_cons_succ, i64_w, i32_w]
      rfl
    refine take_ (i := 1) (N := some 6) (v := ?_) (a' := ?_) #[true, true, false, false, false, false, false, false, false, false, false, false, false, false, false, false] rfl rfl (take_ofW HT_.out HW_.out (by kernel_rfl)) (fun _ _ _ h => h) (Or.inl ⟨by rfl, ?_⟩) hHeld ?_ ?_
    rotate_left
    · rintro w' ⟨s0, s1, s2⟩
      go_simp
      with_reducible rfl
    rotate_left
    · simp only [Act.put, List.setIfInBounds_toArray, List.set_cons_zero, List.set_cons_succ, i64_w, i32_w]
      rfl
    refine pure_ (i := 2) (N := some 7) (v := ?_) (a' := ?_) #[true, true, true, false, false, false, false, false, false, false, false, false, false, false, false, false] rfl rfl (any_of HT_.out (by kernel_rfl)) (fun _ _ _ h => h) (Or.inl ⟨by rfl, ?_⟩) ?_ ?_
    rotate_left
    · intro w'
      go_simp
      with_reducible rfl
    rotate_left
    · simp only [Act.put, List.setIfInBounds_toArray, List.set_cons_zero, List.set_cons_succ, i64_w, i32_w]
      rfl
    refine pure_ (i := 3) (N := some 8) (v := ?_) (a' := ?_) #[true, true, true, true, false, false, false, false, false, false, false, false, false, false, false, false] rfl rfl (any_of HT_.out (by kernel_rfl)) (fun _ _ _ h => h) (Or.inl ⟨by rfl, ?_⟩) ?_ ?_
    rotate_left
    · intro w'
      go_simp
      with_reducible rfl
    rotate_left
    · simp only [Act.put, List.setIfInBounds_toArray, List.set_cons_zero, List.set_cons_succ, i64_w, i32_w]
      rfl
    refine take_ (i := 4) (N := some 9) (v := ?_) (a' := ?_) #[true, true, true, true, true, false, false, false, false, false, false, false, false, false, false, false] rfl rfl (take_ofW HT_.out HW_.out (by kernel_rfl)) (fun _ _ _ h => h) (Or.inl ⟨by rfl, ?_⟩) hHeld ?_ ?_
    rotate_left
    · rintro w' ⟨s0, s1, s2⟩
      go_simp
      with_reducible rfl
    rotate_left
    · simp only [Act.put, List.setIfInBounds_toArray, List.set_cons_zero, List.set_cons_succ, i64_w, i32_w]
      rfl
    refine pure_ (i := 5) (N := some 10) (v := ?_) (a' := ?_) #[true, true, true, true, true, true, false, false, false, false, false, false, false, false, false, false] rfl rfl (any_of HT_.out (by kernel_rfl)) (fun _ _ _ h => h) (Or.inl ⟨by rfl, ?_⟩) ?_ ?_
    rotate_left
    · intro w'
      go_simp
      with_reducible rfl
    rotate_left
    · simp only [Act.put, List.setIfInBounds_toArray, List.set_cons_zero, List.set_cons_succ, i64_w, i32_w]
      rfl
    refine pure_ (i := 6) (N := some 11) (v := ?_) (a' := ?_) #[true, true, true, true, true, true, true, false, false, false, false, false, false, false, false, false] rfl rfl (any_of HT_.out (by kernel_rfl)) (fun _ _ _ h => h) (Or.inl ⟨by rfl, ?_⟩) ?_ ?_
    rotate_left
    · intro w'
      go_simp
      with_reducible rfl
    rotate_left
    · simp only [Act.put, List.setIfInBounds_toArray, List.set_cons_zero, List.set_cons_succ, i64_w, i32_w]
      rfl
    refine pure_ (i := 7) (N := some 12) (v := ?_) (a' := ?_) #[true, true, true, true, true, true, true, true, false, false, false, false, false, false, false, false] rfl rfl (any_of HT_.out (by kernel_rfl)) (fun _ _ _ h => h) (Or.inl ⟨by rfl, ?_⟩) ?_ ?_
    rotate_left
    · intro w'
      go_simp
      with_reducible rfl
    rotate_left
    · simp only [Act.put, List.setIfInBounds_toArray, List.set_cons_zero, List.set_cons_succ, i64_w, i32_w]
      rfl
    refine take_ (i := 8) (N := some 13) (v := ?_) (a' := ?_) #[true, true, true, true, true, true, true, true, true, false, false, false, false, false, false, false] rfl rfl (take_ofW HT_.out HW_.out (by kernel_rfl)) (fun _ _ _ h => h) (Or.inl ⟨by rfl, ?_⟩) hHeld ?_ ?_
    rotate_left
    · rintro w' ⟨s0, s1, s2⟩
      go_simp
      with_reducible rfl
    rotate_left
    · simp only [Act.put, List.setIfInBounds_toArray, List.set_cons_zero, List.set_cons_succ, i64_w, i32_w]
      rfl
    refine pure_ (i := 9) (N := some 14) (v := ?_) (a' := ?_) #[true, true, true, true, true, true, true, true, true, true, false, false, false, false, false, false] rfl rfl (any_of HT_.out (by kernel_rfl)) (fun _ _ _ h => h) (Or.inl ⟨by rfl, ?_⟩) ?_ ?_
    rotate_left
    · intro w'
      go_simp
      with_reducible rfl
    rotate_left
    · simp only [Act.put, List.setIfInBounds_toArray, List.set_cons_zero, List.set_cons_succ, i64_w, i32_w]
      rfl
    refine pure_ (i := 10) (N := some 15) (v := ?_) (a' := ?_) #[true, true, true, true, true, true, true, true, true, true, true, false, false, false, false, false] rfl rfl (any_of HT_.out (by kernel_rfl)) (fun _ _ _ h => h) (Or.inl ⟨by rfl, ?_⟩) ?_ ?_
    rotate_left
    · intro w'
      go_simp
      with_reducible rfl
    rotate_left
    · simp only [Act.put, List.setIfInBounds_toArray, List.set_cons_zero, List.set_cons_succ, i64_w, i32_w]
      rfl
    refine take_ (i := 11) (N := some 16) (v := ?_) (a' := ?_) #[true, true, true, true, true, true, true, true, true, true, true, true, false, false, false, false] rfl rfl (take_ofW HT_.out HW_.out (by kernel_rfl)) (fun _ _ _ h => h) (Or.inl ⟨by rfl, ?_⟩) hHeld ?_ ?_
    rotate_left
    · rintro w' ⟨s0, s1, s2⟩
      go_simp
      with_reducible rfl
    rotate_left
    · simp only [Act.put, List.setIfInBounds_toArray, List.set_cons_zero, List.set_cons_succ, i64_w, i32_w]
      rfl
    refine take_ (i := 12) (N := some 17) (v := ?_) (a' := ?_) #[true, true, true, true, true, true, true, true, true, true, true, true, true, false, false, false] rfl rfl (take_ofW HT_.out HW_.out (by kernel_rfl)) (fun _ _ _ h => h) (Or.inl ⟨by rfl, ?_⟩) hHeld ?_ ?_
    rotate_left
    · rintro w' ⟨s0, s1, s2⟩
      go_simp
      with_reducible rfl
    rotate_left
    · simp only [Act.put, List.setIfInBounds_toArray, List.set_cons_zero, List.set_cons_succ, i64_w, i32_w]
      rfl
    refine pure_ (i := 13) (N := some 18) (v := ?_) (a' := ?_) #[true, true, true, true, true, true, true, true, true, true, true, true, true, true, false, false] rfl rfl (any_of HT_.out (by kernel_rfl)) (fun _ _ _ h => h) (Or.inl ⟨by rfl, ?_⟩) ?_ ?_
    rotate_left
    · intro w'
      go_simp
      with_reducible rfl
    rotate_left
    · simp only [Act.put, List.setIfInBounds_toArray, List.set_cons_zero, List.set_cons_succ, i64_w, i32_w]
      rfl
    refine pure_ (i := 14) (N := some 19) (v := ?_) (a' := ?_) #[true, true, true, true, true, true, true, true, true, true, true, true, true, true, true, false] rfl rfl (any_of HT_.out (by kernel_rfl)) (fun _ _ _ h => h) (Or.inl ⟨by rfl, ?_⟩) ?_ ?_
    rotate_left
    · intro w'
      go_simp
      with_reducible rfl
    rotate_left
    · simp only [Act.put, List.setIfInBounds_toArray, List.set_cons_zero, List.set_cons_succ, i64_w, i32_w]
      rfl
    refine pure_ (i := 15) (N := some 4) (v := ?_) (a' := ?_) #[true, true, true, true, true, true, true, true, true, true, true, true, true, true, true, true] rfl rfl (any_of HT_.out (by kernel_rfl)) (fun _ _ _ h => h) (Or.inl ⟨by rfl, ?_⟩) ?_ ?_
    rotate_left
    · intro w'
      go_simp
      with_reducible rfl
    rotate_left
    · simp only [Act.put, List.setIfInBounds_toArray, List.set_cons_zero, List.set_cons_succ, i64_w, i32_w]
      rfl
    refine done_ (done_of HT_.out (by kernel_rfl)) ?_

    go_wp2
    go_ret
    exact ⟨rfl, HB.out⟩
end Go.Proofs.Ytnecgdlhkbbpgaa.Q
