/-
  impl.CountRoutes, told as the printed functions are: of a track, the lists of moves that end on a goal, by the cars at which they end. The rows within memory's reach.
-/
import Derived.Test.YtjblefcdihmdbaaDoorRoutesPure
import Derived.Test.YtjblefcdihmdbaaDoorTabRange
import Derived.Test.YtjblefcdihmdbaaDoorOutTrack
import Derived.Test.YtjblefcdihmdbaaDoorQ2
import Derived.Test.YtjblefcdihmdbaaDoorQ1
import Derived.Test.YtjblefcdihmdbaaDoorQ10
import Derived.Test.YtjblefcdihmdbaaDoorQ4
namespace Go.Proofs.YtjblefcdihmdbaaDoor.Q
open Go.RowKit Go.Proofs.YtjblefcdihmdbaaDoorW.PrintWords Go.Proofs.YtjblefcdihmdbaaDoorW.PrintLast Go.Proofs.YtjblefcdihmdbaaDoorW.PrintMore
open Go.Maps (Keyed)
open Go.Proofs.YtjblefcdihmdbaaDoor.B
set_option linter.unusedVariables false

def impl_CountRoutes.f (k : Nat) (l : List ByteArray) (a1 : Int) : Option (Int × Int) := (impl_IsTrack.f l).bind fun t => (impl_within.f a1 1 12).bind fun u => (impl_first.f k [⟨t, 1⟩, ⟨u, 2⟩]).bind fun c => if c = 0 then (impl_firstCar.f l).bind fun q => if isT l = true ∧ B.Good l q ∧ 1 ≤ a1 ∧ a1 ≤ 12 then some (((routesL l a1.toNat [q]).countP (goalB l) : Int), 0) else none else some (0, c)
theorem impl_CountRoutes.mono : ∀ a0 a1 k, LeO (impl_CountRoutes.f k a0 a1) (impl_CountRoutes.f (k + 1) a0 a1) := by
  intro a0 a1 k
  unfold impl_CountRoutes.f
  exact LeO.bind (LeO.refl _) (fun t => LeO.bind (LeO.refl _) (fun u => LeO.bind (impl_first.mono _ _) (fun c => LeO.refl _)))
theorem carKL : WideMaps.KeyLaw Tryd.prog 28 := deep_law_laid tourLaid (m := 5) (by decide) (of_decide_eq_true (by kernel_rfl)) (by kernel_rfl) (by kernel_rfl)
theorem good_wf {l : List ByteArray} (ht : isT l = true) {q : Q4} (h : B.Good l q) : wfQ q := by
  obtain ⟨h1, h2, h3, h4⟩ := h.range ht
  have w : ∀ x : Int, -9223372036854775808 ≤ x → x ≤ 9223372036854775807 → (Lit.int .i64 x).wf = true := fun x a b => by
    have := wrap64_wf x
    rwa [wrap_in a b] at this
  exact ⟨w _ (by omega) (by omega), w _ (by omega) (by omega), w _ (by omega) (by omega), w _ (by omega) (by omega)⟩
theorem way_wf {R : List Q4} (h : R.length ≤ 1000000000000000) (a : Q4) (c : Int) (hc : wayF R a = some c) : (Lit.int .i64 c).wf = true := by
  obtain ⟨_, rfl⟩ := wayF_mem hc
  have h1 := List.count_le_length (a := a) (l := R)
  have := wrap64_wf (R.count a : Int)
  rwa [wrap_in (by omega) (by omega)] at this
/-- In the loop over a map: the map that is ranged over, the map that is made. -/
structure CntS (w0 : World) (R : List Q4) (T : Q4 → Option Int) (bn bo r : Nat) (todo : List Q4) (w : World) : Prop where
  rng : RangeM Tryd.prog 28 2 mkQ (wayF R) w bo r todo
  tab : TabM Tryd.prog 28 mkQ (Value.int .i64) T w bn
  below : Below w0.heap.size w0 w
  ne1 : bn ≠ bo
  ne2 : bn ≠ r
  ge1 : w0.heap.size ≤ bn
  ge2 : w0.heap.size ≤ r
/-- In the loop over a car's moves. -/
structure InC (w0 : World) (R : List Q4) (T : Q4 → Option Int) (bn bo r : Nat) (todo : List Q4) (g : Nat) (q : Q4) (u : Value) (ms : List Int) (w : World) : Prop where
  cnt : CntS w0 R T bn bo r todo w
  car : w.heap[g]? = some (.cells #[.int .i64 q.1, .int .i64 q.2.1, .int .i64 q.2.2.1, .int .i64 q.2.2.2] 28 (0, 0))
  moves : Kd.R (Kd.int .i64) 2 w w0.heap.size (fun _ => True) u ms
section
variable {w0 w w' : World} {R : List Q4} {T T' : Q4 → Option Int} {bn bo r g : Nat} {todo todo' : List Q4} {q : Q4} {u : Value} {ms : List Int}
theorem CntS.step (h : Aside0 (CntS w0 R T bn bo r todo w)) (hb : Below w.heap.size w w') : Aside0 (CntS w0 R T bn bo r todo w') := ⟨h.out.rng.below hb, h.out.tab.below hb, below_then h.out.below h.out.below.size hb, h.out.ne1, h.out.ne2, h.out.ge1, h.out.ge2⟩
theorem CntS.next (h : Aside0 (CntS w0 R T bn bo r todo w)) (hr : RangeM Tryd.prog 28 2 mkQ (wayF R) w' bo r todo') (hg : w.grownBy w' (some r)) : Aside0 (CntS w0 R T bn bo r todo' w') :=
  ⟨hr, h.out.tab.kept hg (fun e => h.out.ne2 (Option.some.inj e)), grown_from h.out.below h.out.ge2 hg, h.out.ne1, h.out.ne2, h.out.ge1, h.out.ge2⟩
theorem CntS.turned (h : Aside0 (CntS w0 R T bn bo r todo w)) (ht : TabM Tryd.prog 28 mkQ (Value.int .i64) T' w' bn) (hg : w.grownBy w' (some bn)) : Aside0 (CntS w0 R T' bn bo r todo w') :=
  ⟨h.out.rng.kept hg (fun e => h.out.ne1 (Option.some.inj e).symm) (fun e => h.out.ne2 (Option.some.inj e).symm), ht, grown_from h.out.below h.out.ge1 hg, h.out.ne1, h.out.ne2, h.out.ge1, h.out.ge2⟩
theorem InC.step (h : Aside0 (InC w0 R T bn bo r todo g q u ms w)) (hb : Below w.heap.size w w') : Aside0 (InC w0 R T bn bo r todo g q u ms w') := ⟨(CntS.step ⟨h.out.cnt⟩ hb).out, blk_below h.out.car hb, Kd.R_below h.out.moves hb⟩
theorem InC.turned (h : Aside0 (InC w0 R T bn bo r todo g q u ms w)) (ht : TabM Tryd.prog 28 mkQ (Value.int .i64) T' w' bn) (hg : w.grownBy w' (some bn)) : Aside0 (InC w0 R T' bn bo r todo g q u ms w') := by
  refine ⟨(CntS.turned ⟨h.out.cnt⟩ ht hg).out, blk_grown h.out.car hg (h.out.cnt.tab.ne h.out.car), ?_⟩
  refine Kd.R_mono (Kd.R_step (Kd.R_bound h.out.moves) (fun k hk hlt => ?_)) (fun _ hk => hk.1)
  obtain ⟨_, _, _, q, _, cells, hc⟩ := hk
  exact hg.block k hlt (h.out.cnt.tab.ne hc)
theorem InC.sees (h : Aside0 (InC w0 R T bn bo r todo g q u ms w)) {n : Q4} {x : Int} (wf : wfQ n) (hx : (T n).getD 0 = x) : w.cell? ⟨g, 0, none⟩ = some (.int .i64 q.1) ∧ w.cell? ⟨g, 1, none⟩ = some (.int .i64 q.2.1) ∧ w.cell? ⟨g, 2, none⟩ = some (.int .i64 q.2.2.1) ∧ w.cell? ⟨g, 3, none⟩ = some (.int .i64 q.2.2.2) ∧ (Instr.lookup 58 (.map (some bn)) (.agg #[.int .i64 n.1, .int .i64 n.2.1, .int .i64 n.2.2.1, .int .i64 n.2.2.2]) false).run Tryd.prog w = .ok (.int .i64 x) w := by
  refine ⟨blk_cell h.out.car 0, blk_cell h.out.car 1, blk_cell h.out.car 2, blk_cell h.out.car 3, ?_⟩
  have := h.out.cnt.tab.look mkQ_inj carLaw Tryd.underlying58 (Tryd.zeroValue2 w) n (car_key n wf)
  cases hT : T n with
  | none => rw [hT] at this hx; subst hx; exact this
  | some y => rw [hT] at this hx; subst hx; exact this
end
def cnt15T : Bool × List (List Nat × List Nat) := (true, [([], []), ([], []), ([], []), ([1, 2], [1, 2]), ([0, 3], [0, 3]), ([], []), ([4, 5], [4, 5]), ([0, 3, 3, 0, 1, 2, 3, 5], [0, 3]), ([7], [7]), ([0, 8, 6, 7, 0, 1, 2, 3, 4, 5, 6, 7, 8], [0, 6, 8])])
def cnt15B : List Nat := [0, 0, 0, 6, 15, 0, 63, 47, 175, 511]
theorem cnt15_tab : rtab .any (opsOf Tryd.f16 15) = cnt15T := by kernel_rfl
theorem cnt15_bits : waitsOk cnt15T.2 cnt15B = true := by kernel_rfl
theorem small_mul {a b c : Nat} (h : a * b ≤ c) (hb : 1 ≤ b) : a ≤ c := Nat.le_trans (Nat.le_mul_of_pos_right a hb) h
theorem next_bound {l : List ByteArray} {R : List Q4} {d : Nat} (h : R.length * 9 ^ (d + 1) ≤ 1000000000000000) : (R.flatMap (nextsQ l)).length * 9 ^ d ≤ 1000000000000000 := by
  have h1 := Nat.mul_le_mul_right (9 ^ d) (flat_len l R)
  have h2 : 9 * R.length * 9 ^ d = R.length * 9 ^ (d + 1) := by
    rw [Nat.pow_succ, Nat.mul_comm 9 R.length, Nat.mul_assoc, Nat.mul_comm 9 (9 ^ d)]
  omega
theorem erase_two {i1 i2 : BEq Q4} (h : ∀ a b, i1.beq a b = i2.beq a b) (l : List Q4) (x : Q4) : @List.erase Q4 i1 l x = @List.erase Q4 i2 l x := by
  have e : i1 = i2 := by
    cases i1 with
    | mk f =>
      cases i2 with
      | mk g => exact congrArg BEq.mk (funext fun a => funext fun b => h a b)
  rw [e]
theorem erase_inst (l : List Q4) (x : Q4) : @List.erase Q4 instBEqOfDecidableEq l x = @List.erase Q4 instBEqProd l x :=
  erase_two (fun a b => by
    have h1 : (instBEqOfDecidableEq : BEq Q4).beq a b = decide (a = b) := rfl
    have h2 : (instBEqProd : BEq Q4).beq a b = decide (a = b) := by
      rw [Bool.eq_iff_iff, decide_eq_true_iff]
      exact beq_iff_eq
    rw [h1, h2]) l x
/-- Ahead of a round: the map of the routes so far. -/
structure NowS (w0 : World) (R : List Q4) (bo : Nat) (w : World) : Prop where
  tab : TabM Tryd.prog 28 mkQ (Value.int .i64) (wayF R) w bo
  below : Below w0.heap.size w0 w
  ge : w0.heap.size ≤ bo
theorem NowS.step {w0 w w' : World} {R : List Q4} {bo : Nat} (h : Aside0 (NowS w0 R bo w)) (hb : Below w.heap.size w w') : Aside0 (NowS w0 R bo w') := ⟨h.out.tab.below hb, below_then h.out.below h.out.below.size hb, h.out.ge⟩
theorem range_ext {P : Program} {k e : TypeId} {α : Type} {mkK : α → Value} {f : α → Option Int} {w : World} {b r : Nat} {todo : List α} (h : RangeM P k e mkK f w b r todo) (hw : ∃ i, r = i) : True := trivial
set_option linter.unusedSimpArgs false
set_option maxRecDepth 100000
set_option maxHeartbeats 40000000 in
theorem impl_CountRoutes.calls (k : Nat) (A0 : Option Addr) (c0 : Nat) (l0 : List ByteArray) (a1 : Int) (r1 r2 : Int) (w : World) (hr0 : Kd.C Kd.string w A0 l0.length l0) (hc0 : l0.length ≤ c0) (h : impl_CountRoutes.f k l0 a1 = some (r1, r2)) :
    Calls Tryd.prog 16 #[.slice A0 l0.length c0, .int .i64 a1] w fun e w' => e = .returned (.tuple #[.int .i64 r1, .int .i64 r2]) ∧ Below w.heap.size w w' := by
  unfold impl_CountRoutes.f at h
  obtain ⟨ist, hist, h⟩ := Option.bind_eq_some_iff.1 h
  obtain ⟨wi, hwi, h⟩ := Option.bind_eq_some_iff.1 h
  obtain ⟨code, hcode, h⟩ := Option.bind_eq_some_iff.1 h
  have HR := Aside0.mk hr0
  have HT := Aside0.mk hist
  have HW := Aside0.mk hwi
  obtain ⟨ys, hys⟩ : ∃ ys : List (S51), ys = [⟨ist, 1⟩, ⟨wi, 2⟩] := ⟨_, rfl⟩
  rw [← hys] at hcode
  have HF := Aside0.mk hcode
  have Ny := Aside0.mk hys
  clear hist hwi hcode hys hr0
  have hu := Tryd.underlying28
  have huc := Tryd.underlying51
  have hmm := @run_makeMap Tryd.prog
  go_enter Tryd.func16, Tryd.ntmps16
  by_cases cz : code = 0
  rotate_left
  · rw [if_neg cz] at h
    simp only [Option.some.injEq, Prod.mk.injEq] at h
    obtain ⟨rfl, rfl⟩ := h
    go_wp2_with (first
    | (go_at_call 29; refine (impl_IsTrack.calls A0 c0 l0 ist _ HR.out hc0 HT.out).mono ?_; rintro e w3 ⟨rfl, hb3⟩; have HB3 := Aside0.mk hb3)
    | (go_at_call 30; refine (impl_within.calls a1 1 12 wi _ HW.out).mono ?_; rintro e w4' ⟨rfl, nd4, rfl⟩; have HB4 : Aside0 (Below w.heap.size w (w3.drewN nd4)) := ⟨pw_below_drewN HB3.out _⟩; generalize w3.drewN nd4 = w4 at HB4 ⊢)
    | ((with_reducible refine gate_dst (N := 22) rfl ?_); refine Kd.R_lit k51 _ 51 ?hg (N := 22) ?hd (xs := ([(⟨ist, 1⟩ : S51), (⟨wi, 2⟩ : S51)] : List (S51))) (inner := [.bool ist, .int .i64 1, .bool wi, .int .i64 2]) (ok := fun _ => True) (okp := fun _ => True) ?hr ?hp (fun _ hk => hk) trivial (Below.refl _ _) (Nat.le_refl _) (by simp) ?_; (case hd => rfl); (case hg => rfl); (case hr => first | (go_simp; done) | (go_simp; rfl)); (case hp => exact (Reps.c2 (show Kd.M k51 _ _ _ (⟨ist, 1⟩ : S51) [.bool ist, .int .i64 1] from (k51_mkM _ _ _ (⟨ist, 1⟩ : S51) )) (Reps.c2 (show Kd.M k51 _ _ _ (⟨wi, 2⟩ : S51) [.bool wi, .int .i64 2] from (k51_mkM _ _ _ (⟨wi, 2⟩ : S51) )) (Reps.none _ _)))); intro v5 w5 ho5 hb5 hg_ hnew_; clear hg_ hnew_; rw [← Ny.out] at ho5; have HB5 := Aside0.mk (below_then HB4.out HB4.out.size hb5); have HO5 := Aside0.mk ho5; clear ho5 hb5; obtain ⟨Ao5, co5, eo5⟩ := Kd.R_slice HO5.out; subst eo5)
    | (go_at_call 28; refine (impl_first.calls k _ _ ys code _ (Kd.R_reads' HO5.out).2.2 (Kd.R_reads' HO5.out).2.1 HF.out).mono ?_; rintro e w6 ⟨rfl, hb6⟩; have HB6 := Aside0.mk (below_then HB5.out HB5.out.size hb6); clear hb6))
    go_ret2
    exact ⟨rfl, HB6.out⟩
  rw [if_pos cz] at h
  subst cz
  obtain ⟨⟨q0, q1, q2, q3⟩, hq, h⟩ := Option.bind_eq_some_iff.1 h
  split at h
  rotate_left
  · cases h
  rename_i hcond
  obtain ⟨ht, hgood, hk1, hk2⟩ := hcond
  simp only [Option.some.injEq, Prod.mk.injEq] at h
  obtain ⟨rfl, rfl⟩ := h
  have HQ := Aside0.mk hq
  clear hq
  go_wp2_with (first
    | (go_at_call 29; refine (impl_IsTrack.calls A0 c0 l0 ist _ HR.out hc0 HT.out).mono ?_; rintro e w3 ⟨rfl, hb3⟩; have HB3 := Aside0.mk hb3)
    | (go_at_call 30; refine (impl_within.calls a1 1 12 wi _ HW.out).mono ?_; rintro e w4' ⟨rfl, nd4, rfl⟩; have HB4 : Aside0 (Below w.heap.size w (w3.drewN nd4)) := ⟨pw_below_drewN HB3.out _⟩; generalize w3.drewN nd4 = w4 at HB4 ⊢)
    | ((with_reducible refine gate_dst (N := 22) rfl ?_); refine Kd.R_lit k51 _ 51 ?hg (N := 22) ?hd (xs := ([(⟨ist, 1⟩ : S51), (⟨wi, 2⟩ : S51)] : List (S51))) (inner := [.bool ist, .int .i64 1, .bool wi, .int .i64 2]) (ok := fun _ => True) (okp := fun _ => True) ?hr ?hp (fun _ hk => hk) trivial (Below.refl _ _) (Nat.le_refl _) (by simp) ?_; (case hd => rfl); (case hg => rfl); (case hr => first | (go_simp; done) | (go_simp; rfl)); (case hp => exact (Reps.c2 (show Kd.M k51 _ _ _ (⟨ist, 1⟩ : S51) [.bool ist, .int .i64 1] from (k51_mkM _ _ _ (⟨ist, 1⟩ : S51) )) (Reps.c2 (show Kd.M k51 _ _ _ (⟨wi, 2⟩ : S51) [.bool wi, .int .i64 2] from (k51_mkM _ _ _ (⟨wi, 2⟩ : S51) )) (Reps.none _ _)))); intro v5 w5 ho5 hb5 hg_ hnew_; clear hg_ hnew_; rw [← Ny.out] at ho5; have HB5 := Aside0.mk (below_then HB4.out HB4.out.size hb5); have HO5 := Aside0.mk ho5; clear ho5 hb5; obtain ⟨Ao5, co5, eo5⟩ := Kd.R_slice HO5.out; subst eo5)
    | (go_at_call 28; refine (impl_first.calls k _ _ ys 0 _ (Kd.R_reads' HO5.out).2.2 (Kd.R_reads' HO5.out).2.1 HF.out).mono ?_; rintro e w6 ⟨rfl, hb6⟩; have HB6 := Aside0.mk (below_then HB5.out HB5.out.size hb6); clear hb6)
    | (go_at_call 31; have hbm : Below w6.heap.size w6 (w6.alloc (.map #[] 0)) := (Below.refl _ _).alloc (Nat.le_refl _) _; have HBm := Aside0.mk (below_then HB6.out HB6.out.size hbm); refine (impl_firstCar.calls A0 c0 l0 q0 q1 q2 q3 _ (Kd.C_below HR.out HBm.out) hc0 HQ.out).mono ?_; rintro e w7 ⟨rfl, hb7⟩; have HTM : Aside0 (TabM Tryd.prog 28 mkQ (Value.int .i64) (fun _ => none) w7 w6.heap.size) := ⟨(TabM.made w6 _ _ _ _).below hb7⟩; have HB7 := Aside0.mk (below_then HBm.out HBm.out.size hb7))
    | (refine wpList_insert_tab _ rfl _ _ _ 58 rfl 2 carLaw Tryd.underlying58 mkQ_inj [] (by decide) (fun a c h => by cases h) rfl HTM.out (q0, q1, q2, q3) 1 rfl rfl (car_key _ (good_wf ht hgood)) ?_; intro w8 ht8 hg8; have HN8 : Aside0 (NowS w [(q0, q1, q2, q3)] w6.heap.size w8) := ⟨TabM.same ht8 (fun z => by unfold wayF; by_cases e : z = (q0, q1, q2, q3) <;> simp [e]), grown_from HB7.out HB6.out.size hg8, HB6.out.size⟩))
  obtain ⟨b1, hb1⟩ : ∃ b1, b1 = w6.heap.size := ⟨_, rfl⟩
  rw [← hb1] at HN8 ⊢
  have HP0 : Aside0 ([(q0, q1, q2, q3)].length * 9 ^ a1.toNat ≤ 1000000000000000) := ⟨by
    have h1 : 9 ^ a1.toNat ≤ 9 ^ 12 := Nat.pow_le_pow_right (by omega) (by omega)
    have h2 : (9 : Nat) ^ 12 = 282429536481 := by decide +kernel
    simp only [List.length_singleton, Nat.one_mul]
    omega⟩
  obtain ⟨RF, hRF⟩ : ∃ RF, RF = routesL l0 a1.toNat [(q0, q1, q2, q3)] := ⟨_, rfl⟩
  have HRFe := Aside0.mk hRF
  clear hRF
  clear HB3 HB4 HB5 HO5 HB6 HBm HB7 HQ HT HW HF Ny HTM ht8 hg8 hbm hb7 hb1
  go_loopg [7, 32] a1.toNat (fun gk v7 v32 wr => ∃ (j : Nat) (R : List Q4) (bo : Nat), v7 = .map (some bo) ∧ v32 = .int .i64 j ∧ (j : Int) ≤ a1 ∧ (a1 - j).toNat ≤ gk ∧ Aside0 (routesL l0 (a1 - j).toNat R = RF) ∧ Aside0 (GoodL l0 R) ∧ Aside0 (R.length * 9 ^ (a1 - j).toNat ≤ 1000000000000000) ∧ Aside0 (NowS w R bo wr))
  case atStart => exact ⟨0, [(q0, q1, q2, q3)], b1, rfl, rfl, by omega, by omega, ⟨by rw [HRFe.out]; simp⟩, ⟨fun q hq => by obtain rfl := List.mem_singleton.1 hq; exact hgood⟩, by simpa using HP0, HN8⟩
  case round =>
    clear HN8 HP0
    obtain ⟨j, R, bo, rfl, rfl, hj, hgj, HRF, HG0, HP, HN⟩ := hrel
    by_cases c1 : (j : Int) < a1
    · obtain ⟨d, hd⟩ : ∃ d : Nat, (a1 - j).toNat = d + 1 := ⟨(a1 - j).toNat - 1, by omega⟩
      have hd2 : (a1 - ((j + 1 : Nat) : Int)).toNat = d := by omega
      rw [hd] at HRF HP hgj
      have hRl : R.length ≤ 1000000000000000 := small_mul HP.out (Nat.pow_pos (by omega))
      have HG : Aside0 (GoodL l0 (R.flatMap (nextsQ l0))) := ⟨GoodL.next⟩
      have HP2 := Aside0.mk (next_bound (l := l0) HP.out)
      have hRl2 : (R.flatMap (nextsQ l0)).length ≤ 1000000000000000 := small_mul HP2.out (Nat.pow_pos (by omega))
      have hbm : Below wr.heap.size wr (wr.alloc (.map #[] 0)) := (Below.refl _ _).alloc (Nat.le_refl _) _
      have HN2 := NowS.step HN hbm
      have hsz : (wr.alloc (.map #[] 0)).heap.size = wr.heap.size + 1 := by simp
      have hbo : bo < wr.heap.size := HN.out.tab.lt
      go_wp2_with (at_range; refine wpList_range_tab _ rfl _ 58 rfl carLaw Tryd.underlying58 Tryd.underlying2 (way_wf hRl) mkQ_inj rfl HN2.out.tab ?_; intro w5 ks hks hmem hrg hg5 hs5)
      go_frame
      rw [hsz] at hrg ⊢
      have HC5 : Aside0 (CntS w R (wayF []) wr.heap.size bo (wr.heap.size + 1) ks w5) := ⟨hrg, TabM.same ((TabM.made wr _ _ _ _).kept hg5 (by simp)) (fun q => by simp [wayF]), ⟨hg5.os.trans HN2.out.below.os, hg5.tape.trans HN2.out.below.tape, hg5.output.trans HN2.out.below.output, Nat.le_trans HN2.out.below.size hg5.size, fun i hi => (hg5.block i (Nat.lt_of_lt_of_le hi HN2.out.below.size) (by simp)).trans (HN2.out.below.block i hi)⟩, by omega, by omega, HN.out.below.size, by have := HN.out.below.size; omega⟩
      have HK5 : Aside0 (∀ z, ([] : List Q4).count z + sumT (fun q => R.count q * (nextsQ l0 q).count z) ks = (R.flatMap (nextsQ l0)).count z) := ⟨fun z => by rw [flat_keys (nextsQ l0) z hks R (fun q hq => (hmem q).2 ⟨_, if_pos hq⟩)]; simp⟩
      obtain ⟨bn, hbn⟩ : ∃ bn, bn = wr.heap.size := ⟨_, rfl⟩
      obtain ⟨r, hr⟩ : ∃ r, r = wr.heap.size + 1 := ⟨_, rfl⟩
      rw [← hr] at HC5 ⊢
      rw [← hbn] at HC5 ⊢
      clear hrg hg5 hs5 HN2 hbm hsz HN hbn hr hbo
      go_loopg [10] ks.length (fun gk v10 wr2 => ∃ (todo : List Q4) (N : List Q4), todo.length ≤ gk ∧ Aside0 (∀ z, N.count z + sumT (fun q => R.count q * (nextsQ l0 q).count z) todo = (R.flatMap (nextsQ l0)).count z) ∧ Aside0 (CntS w R (wayF N) bn bo r todo wr2))
      case atStart => exact ⟨ks, [], Nat.le_refl _, HK5, HC5⟩
      case round =>
        clear HK5 HC5
        obtain ⟨todo, N, htl, HK, HC⟩ := hrel
        go_wp2_with (at_next; refine wpList_next_tab _ rfl _ rfl 58 carLaw Tryd.underlying58 Tryd.underlying2 (Tryd.zeroValue2 _) mkQ_inj rfl HC.out.rng ?_ ?_)
        · intro hdone
          subst hdone
          have hcnt : ∀ z, N.count z = (R.flatMap (nextsQ l0)).count z := fun z => by
            have := HK.out z
            simpa [sumT] using this
          go_wp2
          go_roundg d
          case measure => omega
          case rel => exact ⟨j + 1, R.flatMap (nextsQ l0), bn, rfl, by go_num, by omega, by omega, ⟨by rw [hd2]; exact HRF.out⟩, HG, ⟨by rw [hd2]; exact HP2.out⟩, ⟨TabM.same HC.out.tab (fun z => (wayF_eq hcnt z).symm), HC.out.below, HC.out.ge1⟩⟩
        · intro x0 x1 x2 x3 c w4 hq hfq hrg4 hg4 hs4 hen4
          simp only [mkQ] at hen4 ⊢
          obtain ⟨hqR, rfl⟩ := wayF_mem hfq
          have hgq := HG0.out _ hqR
          clear hs4
          rw [erase_inst] at hrg4
          have HC4 := CntS.next HC hrg4 hg4
          obtain ⟨hbn, hnn⟩ := new_carT (w := w4) (n := (x0, x1, x2, x3)) rfl
          obtain ⟨p0, p1, p2, p3⟩ := car_cells hnn
          have HC5 := CntS.step HC4 hbn
          have hgoal : impl_isGoal.f l0 x0 x1 x2 x3 = some (goalB l0 (x0, x1, x2, x3)) := goal_impl ht (x0, x1, x2, x3)
          have htp : 0 < todo.length := List.length_pos_of_mem hq
          have hte : (todo.erase (x0, x1, x2, x3)).length + 1 = todo.length := by rw [List.length_erase_of_mem hq]; omega
          have HK2 : Aside0 (∀ z, N.count z + R.count (x0, x1, x2, x3) * (nextsQ l0 (x0, x1, x2, x3)).count z + sumT (fun q => R.count q * (nextsQ l0 q).count z) (todo.erase (x0, x1, x2, x3)) = (R.flatMap (nextsQ l0)).count z) := ⟨fun z => by
            have := HK.out z
            rw [sumT_erase _ hq] at this
            omega⟩
          by_cases hgb : goalB l0 (x0, x1, x2, x3) = true
          · rw [hgb] at hgoal
            go_wp2_with (go_at_call 34; refine (impl_isGoal.calls A0 c0 l0 x0 x1 x2 x3 true _ (Kd.C_below HR.out HC5.out.below) hc0 hgoal).mono ?_; rintro e w6 ⟨rfl, hb6⟩; have HC6 := CntS.step HC5 hb6)
            go_roundg (todo.length - 1)
            case measure => omega
            case rel => exact ⟨todo.erase (x0, x1, x2, x3), N, by omega, ⟨fun z => by
              have := HK2.out z
              rw [show nextsQ l0 (x0, x1, x2, x3) = [] from if_pos hgb] at this
              simpa using this⟩, HC6⟩
          · have hgf : goalB l0 (x0, x1, x2, x3) = false := by simpa using hgb
            rw [hgf] at hgoal
            obtain ⟨K, hKm⟩ := moves_implQ ht x0 x1 x2 x3 hgq.2.1 hgq.2.2
            have hms := hKm K (Nat.le_refl _)
            have hnx : nextsQ l0 (x0, x1, x2, x3) = ((seg 0 9).filter (openB l0 x0 x1 x2 x3)).map (nextQ (x0, x1, x2, x3)) := if_neg hgb
            have hml9 : ((seg 0 9).filter (openB l0 x0 x1 x2 x3)).length ≤ 9 := movesQ_len l0 (x0, x1, x2, x3)
            rw [hnx] at HK2
            generalize (seg 0 9).filter (openB l0 x0 x1 x2 x3) = ms at hms HK2 hml9
            have hcpos : 1 ≤ R.count (x0, x1, x2, x3) := List.count_pos_iff.2 hqR
            obtain ⟨g, hg⟩ : ∃ g, g = w4.heap.size := ⟨_, rfl⟩
            go_wp2_with (first
              | (go_at_call 34; refine (impl_isGoal.calls A0 c0 l0 x0 x1 x2 x3 false _ (Kd.C_below HR.out HC5.out.below) hc0 hgoal).mono ?_; rintro e w6 ⟨rfl, hb6⟩; have HC6 := CntS.step HC5 hb6; have hnn6 := blk_below hnn hb6; obtain ⟨u0, u1, u2, u3⟩ := car_cells hnn6)
              | (go_at_call 35; refine (impl_openMoves.calls K A0 c0 l0 x0 x1 x2 x3 ms _ (Kd.C_below HR.out HC6.out.below) hc0 hms).mono ?_; rintro e w8 ⟨v8, rfl, ho8, hb8⟩; obtain ⟨A8, x8, rfl⟩ := Kd.R_slice ho8; have HI8 : Aside0 (InC w R (wayF N) bn bo r (todo.erase (x0, x1, x2, x3)) g (x0, x1, x2, x3) (.slice A8 ms.length x8) ms w8) := ⟨(CntS.step HC6 hb8).out, by rw [hg]; exact blk_below hnn6 hb8, Kd.R_lower ho8 HC6.out.below.size⟩))
            rw [← hg]
            clear hg hbn
            go_loopg [49] ms.length (fun gg v49 wr => ∃ (i : Nat) (N : List Q4), v49 = .int .i64 i ∧ i ≤ ms.length ∧ ms.length - i ≤ gg ∧ Aside0 (∀ z, N.count z + R.count (x0, x1, x2, x3) * ((ms.drop i).map (nextQ (x0, x1, x2, x3))).count z + sumT (fun q => R.count q * (nextsQ l0 q).count z) (todo.erase (x0, x1, x2, x3)) = (R.flatMap (nextsQ l0)).count z) ∧ Aside0 (InC w R (wayF N) bn bo r (todo.erase (x0, x1, x2, x3)) g (x0, x1, x2, x3) (.slice A8 ms.length x8) ms wr))
            case atStart => exact ⟨0, N, rfl, by omega, by omega, by simpa using HK2, HI8⟩
            case round =>
              clear HK HK2 HI8 HC HC4 HC5 HC6 p0 p1 p2 p3 u0 u1 u2 u3 hnn hnn6 hen4 hrg4 ho8 hg4 hfq
              obtain ⟨i, N, rfl, hi, hgi, HK, HI⟩ := hrel
              by_cases hlt : i < ms.length
              · have hltz : (i : Int) < (ms.length : Int) := by omega
                have hCm := (Kd.R_reads' HI.out.moves).2.2
                obtain ⟨ad8, e8, hx8⟩ := Kd.at_int hCm i (by omega) hltz
                have hy8 : rd ms (i : Int) = ms[i] := by simp [rd, List.getD_eq_getElem?_getD, hlt]
                rw [hy8, Int.toNat_natCast] at hx8
                have hdr : ms.drop i = ms[i] :: ms.drop (i + 1) := List.drop_eq_getElem_cons hlt
                rw [hdr, List.map_cons] at HK
                generalize ms[i] = m at hx8 HK
                cases e8
                have HN : Aside0 (impl_Car_driven.f x0 x1 x2 x3 m = some (nextQ (x0, x1, x2, x3) m)) := ⟨rfl⟩
                generalize nextQ (x0, x1, x2, x3) m = n at HN HK
                have wfn := driven_wf HN.out
                have HGN : Aside0 (GoodL l0 N) := ⟨fun a ha => HG.out a (by
                  have := HK.out a
                  have h1 := List.count_pos_iff.2 ha
                  exact List.count_pos_iff.1 (by omega))⟩
                have hcn : (N.count n : Int) + (R.count (x0, x1, x2, x3) : Int) ≤ 1000000000000000 := by
                  have h1 := HK.out n
                  have h2 := List.count_le_length (a := n) (l := R.flatMap (nextsQ l0))
                  rw [List.count_cons_self, Nat.mul_add] at h1
                  omega
                go_wp2_with fail
                refine start_ (n := 10) (S := (fun w' => w'.cell? ⟨g, 0, none⟩ = some (.int .i64 x0) ∧ w'.cell? ⟨g, 1, none⟩ = some (.int .i64 x1) ∧ w'.cell? ⟨g, 2, none⟩ = some (.int .i64 x2) ∧ w'.cell? ⟨g, 3, none⟩ = some (.int .i64 x3) ∧ (Instr.lookup 58 (.map (some bn)) (.agg #[.int .i64 n.1, .int .i64 n.2.1, .int .i64 n.2.2.1, .int .i64 n.2.2.2]) false).run Tryd.prog w' = .ok (.int .i64 (N.count n : Int)) w')) (ds := [9]) #[false, false, false, false, false, false, false, false, false, false] (by kernel_rfl) rfl rfl (InC.sees (InC.step HI (below_drew (Below.refl _ _))) wfn (wayF_getD N n)) (fun hHeld => ?_); refine with_tabW cnt15_tab cnt15_bits (fun HT_ HW_ => ?_)
                have HI2 := InC.step HI (below_drew (Below.refl wr.heap.size wr))
                generalize wr.drew = w2 at HI2 hHeld ⊢
                refine pure_ (i := 0) (N := some 53) (v := ?_) (a' := ?_) #[true, false, false, false, false, false, false, false, false, false] rfl rfl (any_of HT_.out (by kernel_rfl)) (fun _ _ _ h => h) (Or.inl ⟨by rfl, ?_⟩) ?_ ?_
                rotate_left
                · intro w'
                  go_simp
                  with_reducible rfl
                rotate_left
                · simp only [Act.put, List.setIfInBounds_toArray, List.set_cons_zero, List.set_cons_succ, i64_w, i32_w]
                  rfl
                refine take_ (i := 1) (N := some 54) (v := ?_) (a' := ?_) #[true, true, false, false, false, false, false, false, false, false] rfl rfl (take_ofW HT_.out HW_.out (by kernel_rfl)) (fun _ _ _ h => h) (Or.inl ⟨by rfl, ?_⟩) hHeld ?_ ?_
                rotate_left
                · rintro w' ⟨s0, s1, s2, s3, s4⟩
                  go_simp
                  with_reducible rfl
                rotate_left
                · simp only [Act.put, List.setIfInBounds_toArray, List.set_cons_zero, List.set_cons_succ, i64_w, i32_w]
                  rfl
                refine pure_ (i := 2) (N := some 55) (v := ?_) (a' := ?_) #[true, true, true, false, false, false, false, false, false, false] rfl rfl (any_of HT_.out (by kernel_rfl)) (fun _ _ _ h => h) (Or.inl ⟨by rfl, ?_⟩) ?_ ?_
                rotate_left
                · intro w'
                  go_simp
                  with_reducible rfl
                rotate_left
                · simp only [Act.put, List.setIfInBounds_toArray, List.set_cons_zero, List.set_cons_succ, i64_w, i32_w]
                  rfl
                refine pure_ (i := 5) (N := some 58) (v := ?_) (a' := ?_) #[true, true, true, false, false, true, false, false, false, false] rfl rfl (any_of HT_.out (by kernel_rfl)) (fun _ _ _ h => h) (Or.inl ⟨by rfl, ?_⟩) ?_ ?_
                rotate_left
                · intro w'
                  go_simp
                  with_reducible rfl
                rotate_left
                · simp only [Act.put, List.setIfInBounds_toArray, List.set_cons_zero, List.set_cons_succ, i64_w, i32_w]
                  rfl
                refine one_ (i := 3) (N := some 56) #[true, true, true, true, false, true, false, false, false, false] rfl rfl (one_of HT_.out (by kernel_rfl)) (by decide) (fun K hK => ?_)
                refine goes_ Tryd.func36 (by kernel_rfl) rfl #[.agg #[.int .i64 x0, .int .i64 x1, .int .i64 x2, .int .i64 x3], .int .i64 m] (by rfl) rfl rfl (by (try simp only [List.map_toArray, List.map_cons, List.map_nil]); first | done | rfl) ?_
                refine (impl_Car_driven.calls x0 x1 x2 x3 m n.1 n.2.1 n.2.2.1 n.2.2.2 _ HN.out).mono ?_
                rintro e w9 ⟨rfl, hb9⟩
                refine ⟨_, rfl, ?_⟩
                have HI9 := InC.step HI2 hb9
                clear hb9
                refine hK.out _ _ (InC.sees HI9 wfn (wayF_getD N n)) (fun hHeld => ?_)
                clear hK K
                refine norm_ (a' := ?_) ?_ ?_
                rotate_left
                · show Act.put _ (some 56) _ = _
                  simp only [Act.put, List.setIfInBounds_toArray, List.set_cons_zero, List.set_cons_succ, i64_w, i32_w]
                  rfl
                refine take_ (i := 4) (N := some 57) (v := ?_) (a' := ?_) #[true, true, true, true, true, true, false, false, false, false] rfl rfl (take_ofW HT_.out HW_.out (by kernel_rfl)) (fun _ _ _ h => h) (Or.inl ⟨by rfl, ?_⟩) hHeld ?_ ?_
                rotate_left
                · rintro w' ⟨s0, s1, s2, s3, s4⟩
                  go_simp
                  with_reducible rfl
                rotate_left
                · simp only [Act.put, List.setIfInBounds_toArray, List.set_cons_zero, List.set_cons_succ, i64_w, i32_w]
                  rfl
                refine pure_ (i := 6) (N := some 59) (v := ?_) (a' := ?_) #[true, true, true, true, true, true, true, false, false, false] rfl rfl (any_of HT_.out (by kernel_rfl)) (fun _ _ _ h => h) (Or.inl ⟨by rfl, ?_⟩) ?_ ?_
                rotate_left
                · intro w'
                  go_simp
                  with_reducible rfl
                rotate_left
                · simp only [Act.put, List.setIfInBounds_toArray, List.set_cons_zero, List.set_cons_succ, i64_w, i32_w]
                  rfl
                refine one_ (i := 7) (N := some 60) #[true, true, true, true, true, true, true, true, false, false] rfl rfl (one_of HT_.out (by kernel_rfl)) (by decide) (fun K hK => ?_)
                obtain ⟨st, w11, hr11, ht11, hg11, hst11⟩ := HI9.out.cnt.tab.entry carKL carLaw Tryd.underlying58 mkQ_inj (fun u => Tryd.zeroValue2 u) 0 rfl allQ (by rw [allQ_len]; decide) (fun a c ha => mem_allQ ht (HGN.out a (wayF_mem ha).1)) n (car_key n wfn)
                rw [wayF_getD] at hr11
                have hq11 : (Instr.mapEntry 58 (.map (some bn)) (.agg #[.int .i64 n.1, .int .i64 n.2.1, .int .i64 n.2.2.1, .int .i64 n.2.2.2])).run Tryd.prog w9 = .ok (.tuple #[.int .i64 (N.count n : Int), .int .i64 (st : Int)]) w11 := hr11
                clear hr11
                refine value_ (v := .tuple #[.int .i64 (N.count n : Int), .int .i64 (st : Int)]) (w1 := w11) (by rfl) rfl (by go_simp) ?_
                have HI11 := InC.turned HI9 ht11 hg11
                refine hK.out _ _ (InC.sees HI11 wfn (by rw [if_pos rfl]; exact wayF_getD N n)) (fun hHeld => ?_)
                clear hK K
                refine norm_ (a' := ?_) ?_ ?_
                rotate_left
                · show Act.put _ (some 60) _ = _
                  simp only [Act.put, List.setIfInBounds_toArray, List.set_cons_zero, List.set_cons_succ, i64_w, i32_w]
                  rfl
                refine pure_ (i := 8) (N := some 61) (v := ?_) (a' := ?_) #[true, true, true, true, true, true, true, true, true, false] rfl rfl (any_of HT_.out (by kernel_rfl)) (fun _ _ _ h => h) (Or.inl ⟨by rfl, ?_⟩) ?_ ?_
                rotate_left
                · intro w'
                  go_simp
                  with_reducible rfl
                rotate_left
                · simp only [Act.put, List.setIfInBounds_toArray, List.set_cons_zero, List.set_cons_succ, i64_w, i32_w]
                  rfl
                refine last_ (i := 9) (N := none) #[true, true, true, true, true, true, true, true, true, true] rfl rfl (one_of HT_.out (by kernel_rfl)) (by decide) (fun K hK => ?_)
                obtain ⟨w12, hr12, ht12, hg12⟩ := hst11 (wrap64 ((N.count n : Int) + (R.count (x0, x1, x2, x3) : Int)))
                have hq12 : (Instr.entryStore 58 (.map (some bn)) (.int .i64 (st : Int)) (.int .i64 (wrap64 ((N.count n : Int) + (R.count (x0, x1, x2, x3) : Int))))).run Tryd.prog w11 = .ok () w12 := hr12
                clear hr12
                refine skip_ (w1 := w12) (by rfl) rfl (by go_simp) ?_
                refine hK.out _ _ ?_
                clear hK K
                refine done_ (done_of HT_.out (by kernel_rfl)) ?_
                have HI12 := InC.turned HI9 ht12 hg12

                go_wp2_with fail
                go_roundg (ms.length - (i + 1))
                case measure => omega
                case rel => exact ⟨i + 1, N ++ List.replicate (R.count (x0, x1, x2, x3)) n, by go_num, by omega, by omega, ⟨fun z => by
                  have h1 := HK.out z
                  rw [count_more]
                  rw [List.count_cons, Nat.mul_add] at h1
                  by_cases cz : n = z
                  · subst cz
                    simp at h1 ⊢
                    omega
                  · rw [if_neg cz]
                    rw [if_neg (by simpa using cz)] at h1
                    omega⟩, ⟨⟨HI12.out.cnt.rng, TabM.same HI12.out.cnt.tab (fun z => by rw [wayF_add N _ hcpos n z, wrap_in (by omega) (by omega)]), HI12.out.cnt.below, HI12.out.cnt.ne1, HI12.out.cnt.ne2, HI12.out.cnt.ge1, HI12.out.cnt.ge2⟩, HI12.out.car, HI12.out.moves⟩⟩
              · have hltz : ¬ (i : Int) < (ms.length : Int) := by omega
                go_wp2
                go_roundg (todo.length - 1)
                case measure => omega
                case rel => exact ⟨todo.erase (x0, x1, x2, x3), N, by omega, ⟨fun z => by
                  have h1 := HK.out z
                  rw [List.drop_eq_nil_of_le (by omega)] at h1
                  simpa using h1⟩, ⟨HI.out.cnt⟩⟩
    · have hja : (j : Int) = a1 := by omega
      have hz0 : (a1 - (j : Int)).toNat = 0 := by omega
      rw [hz0] at HRF HP
      have hRl : R.length ≤ 1000000000000000 := by simpa using HP.out
      have HRR : Aside0 (R = RF) := ⟨HRF.out⟩
      have hsz : bo < wr.heap.size := HN.out.tab.lt
      go_wp2_with (at_range; refine wpList_range_tab _ rfl _ 58 rfl carLaw Tryd.underlying58 Tryd.underlying2 (way_wf hRl) mkQ_inj rfl HN.out.tab ?_; intro w5 ks hks hmem hrg hg5 hs5)
      try go_frame
      have HB5 : Aside0 (Below w.heap.size w w5) := ⟨⟨hg5.os.trans HN.out.below.os, hg5.tape.trans HN.out.below.tape, hg5.output.trans HN.out.below.output, Nat.le_trans HN.out.below.size hg5.size, fun i hi => (hg5.block i (Nat.lt_of_lt_of_le hi HN.out.below.size) (by simp)).trans (HN.out.below.block i hi)⟩⟩
      have hge : w.heap.size ≤ wr.heap.size := HN.out.below.size
      have HRG := Aside0.mk hrg
      have HK5 : Aside0 (0 + sumT (fun q => R.count q * (if goalB l0 q = true then 1 else 0)) ks = R.countP (goalB l0)) := ⟨by rw [countP_keys (goalB l0) hks R (fun q hq => (hmem q).2 ⟨_, if_pos hq⟩)]; simp⟩
      have hRP : R.countP (goalB l0) ≤ 1000000000000000 := Nat.le_trans List.countP_le_length hRl
      obtain ⟨r, hr⟩ : ∃ r, r = wr.heap.size := ⟨_, rfl⟩
      rw [← hr] at HRG hge ⊢
      clear hrg hg5 hs5 HN hsz hr
      go_loopg [13] ks.length (fun gk v13 wr2 => ∃ (todo : List Q4) (acc : Nat), v13 = .int .i64 acc ∧ todo.length ≤ gk ∧ Aside0 (acc + sumT (fun q => R.count q * (if goalB l0 q = true then 1 else 0)) todo = R.countP (goalB l0)) ∧ Aside0 (RangeM Tryd.prog 28 2 mkQ (wayF R) wr2 bo r todo) ∧ Aside0 (Below w.heap.size w wr2))
      case atStart => exact ⟨ks, 0, rfl, Nat.le_refl _, HK5, HRG, HB5⟩
      case round =>
        clear HK5 HRG HB5
        obtain ⟨todo, acc, rfl, htl, HK, HRG, HB⟩ := hrel
        go_wp2_with (at_next; refine wpList_next_tab _ rfl _ rfl 58 carLaw Tryd.underlying58 Tryd.underlying2 (Tryd.zeroValue2 _) mkQ_inj rfl HRG.out ?_ ?_)
        · intro hdone
          subst hdone
          have hacc : acc = RF.countP (goalB l0) := by
            have := HK.out
            rw [← HRR.out]
            simpa [sumT] using this
          rw [HRFe.out] at hacc
          subst hacc
          go_wp2
          go_ret2
          exact ⟨rfl, HB.out⟩
        · intro x0 x1 x2 x3 c w4 hq hfq hrg4 hg4 hs4 hen4
          simp only [mkQ] at hen4 ⊢
          obtain ⟨hqR, rfl⟩ := wayF_mem hfq
          clear hs4
          rw [erase_inst] at hrg4
          have HB4 := Aside0.mk (grown_from HB.out hge hg4)
          obtain ⟨hbn, hnn⟩ := new_carT (w := w4) (n := (x0, x1, x2, x3)) rfl
          obtain ⟨p0, p1, p2, p3⟩ := car_cells hnn
          have HB5 := Aside0.mk (below_then HB4.out HB4.out.size hbn)
          have HRG5 := Aside0.mk (RangeM.below hrg4 hbn)
          have hgoal : impl_isGoal.f l0 x0 x1 x2 x3 = some (goalB l0 (x0, x1, x2, x3)) := goal_impl ht (x0, x1, x2, x3)
          have htp : 0 < todo.length := List.length_pos_of_mem hq
          have hte : (todo.erase (x0, x1, x2, x3)).length + 1 = todo.length := by rw [List.length_erase_of_mem hq]; omega
          have hK2 : acc + R.count (x0, x1, x2, x3) * (if goalB l0 (x0, x1, x2, x3) = true then 1 else 0) + sumT (fun q => R.count q * (if goalB l0 q = true then 1 else 0)) (todo.erase (x0, x1, x2, x3)) = R.countP (goalB l0) := by
            have := HK.out
            rw [sumT_erase _ hq] at this
            omega
          by_cases hgb : goalB l0 (x0, x1, x2, x3) = true
          · rw [hgb] at hgoal
            rw [if_pos hgb, Nat.mul_one] at hK2
            go_wp2_with (go_at_call 34; refine (impl_isGoal.calls A0 c0 l0 x0 x1 x2 x3 true _ (Kd.C_below HR.out HB5.out) hc0 hgoal).mono ?_; rintro e w6 ⟨rfl, hb6⟩; have HB6 := Aside0.mk (below_then HB5.out HB5.out.size hb6); have HRG6 := Aside0.mk (RangeM.below HRG5.out hb6))
            go_roundg (todo.length - 1)
            case measure => omega
            case rel => exact ⟨todo.erase (x0, x1, x2, x3), acc + R.count (x0, x1, x2, x3), by first | (rw [wrap_in (by omega) (by omega)]; simp; done) | (simp; done) | omega, by omega, ⟨hK2⟩, HRG6, HB6⟩
          · have hgf : goalB l0 (x0, x1, x2, x3) = false := by simpa using hgb
            rw [hgf] at hgoal
            rw [if_neg hgb, Nat.mul_zero, Nat.add_zero] at hK2
            go_wp2_with (go_at_call 34; refine (impl_isGoal.calls A0 c0 l0 x0 x1 x2 x3 false _ (Kd.C_below HR.out HB5.out) hc0 hgoal).mono ?_; rintro e w6 ⟨rfl, hb6⟩; have HB6 := Aside0.mk (below_then HB5.out HB5.out.size hb6); have HRG6 := Aside0.mk (RangeM.below HRG5.out hb6))
            go_roundg (todo.length - 1)
            case measure => omega
            case rel => exact ⟨todo.erase (x0, x1, x2, x3), acc, rfl, by omega, ⟨hK2⟩, HRG6, HB6⟩
end Go.Proofs.YtjblefcdihmdbaaDoor.Q
