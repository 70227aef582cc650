/-
  impl.SquaresReached, told as the printed functions are: how many squares the search's list has. The rows within memory's reach, at most 1,000,000 cars.
-/
import Derived.Test.YtjblefcdihmdbaaDoorOutTour
import Derived.Test.YtjblefcdihmdbaaDoorOutTrack
import Derived.Test.YtjblefcdihmdbaaDoorQ2
import Derived.Test.YtjblefcdihmdbaaDoorQ1
import Derived.Test.YtjblefcdihmdbaaDoorQ10
namespace Go.Proofs.YtjblefcdihmdbaaDoor.Q
open Go.RowKit Go.Proofs.YtjblefcdihmdbaaDoorW.PrintWords Go.Proofs.YtjblefcdihmdbaaDoorW.PrintLast Go.Proofs.YtjblefcdihmdbaaDoorW.PrintMore
open Go.Maps (Keyed)
set_option linter.unusedVariables false

abbrev Q2 := Int × Int
def nubP : List Q2 → List Q2
  | [] => []
  | x :: l => if x ∈ l then nubP l else x :: nubP l
theorem mem_nubP (a : Q2) (l : List Q2) : a ∈ nubP l ↔ a ∈ l := by
  induction l with
  | nil => simp [nubP]
  | cons x l ih =>
    simp only [nubP]
    split
    · rename_i h
      rw [ih, List.mem_cons]
      exact ⟨Or.inr, fun h2 => h2.elim (fun e => e ▸ h) id⟩
    · rw [List.mem_cons, List.mem_cons, ih]
theorem nubP_nodup (l : List Q2) : (nubP l).Nodup := by
  induction l with
  | nil => simp [nubP]
  | cons x l ih =>
    simp only [nubP]
    split
    · exact ih
    · rename_i h
      exact List.nodup_cons.2 ⟨fun h2 => h ((mem_nubP x l).1 h2), ih⟩
def sqT (t : Trip) : Q2 := (t.f0.f0, t.f0.f1)
def wf2 (q : Q2) : Bool := (Lit.int .i64 q.1).wf && (Lit.int .i64 q.2).wf
def wf4 (q : Q4) : Bool := (Lit.int .i64 q.1).wf && ((Lit.int .i64 q.2.1).wf && ((Lit.int .i64 q.2.2.1).wf && (Lit.int .i64 q.2.2.2).wf))
theorem wf4_wf {q : Q4} (h : wf4 q = true) : wfQ q := by
  simp only [wf4, Bool.and_eq_true] at h
  exact h
def neverP (_ : Q4) : Option Bool := some false
def impl_SquaresReached.f (k : Nat) (l : List ByteArray) (a1 : Int) : Option (Int × Int) := (impl_IsTrack.f l).bind fun t => (impl_within.f a1 0 20).bind fun u => (impl_first.f k [⟨t, 1⟩, ⟨u, 2⟩]).bind fun c => if c = 0 then (impl_firstCar.f l).bind fun q => if wf4 q = true then (tourF neverP k l a1 k [trip0 q.1 q.2.1 q.2.2.1 q.2.2.2] 0).bind fun z => if z.1.length < 1000000 ∧ z.1.all (fun t => wf2 (sqT t)) = true then some (((nubP (z.1.map sqT)).length : Int), 0) else none else none else some (0, c)
theorem impl_SquaresReached.mono : ∀ a0 a1 k, LeO (impl_SquaresReached.f k a0 a1) (impl_SquaresReached.f (k + 1) a0 a1) := by
  intro a0 a1 k
  unfold impl_SquaresReached.f
  exact LeO.bind (LeO.refl _) (fun t => LeO.bind (LeO.refl _) (fun u => LeO.bind (impl_first.mono _ _) (fun c => LeO.ite (LeO.bind (LeO.refl _) (fun q => LeO.ite (LeO.bind (tourF_mono _ _ (fun _ => LeO.refl _) _ _ _ _ _ _) (fun z => LeO.refl _)) (LeO.refl _))) (LeO.refl _))))
theorem sqLaw : Keyed Tryd.prog 55 := Keyed.of_law (deep_law_laid tourLaid (m := 5) (by decide) (of_decide_eq_true (by kernel_rfl)) (by kernel_rfl) (by kernel_rfl))
def mkS (q : Q2) : Value := .agg #[.int .i64 q.1, .int .i64 q.2]
theorem mkS_inj (a b : Q2) (h : mkS a = mkS b) : a = b := by
  obtain ⟨a0, a1⟩ := a
  obtain ⟨b0, b1⟩ := b
  simp only [mkS, Value.agg.injEq] at h
  have h1 := congrArg Array.toList h
  simp at h1
  obtain ⟨rfl, rfl⟩ := h1
  rfl
theorem sq_key (q : Q2) (h : wf2 q = true) : ∃ l, keyOf Tryd.prog 55 (mkS q) = some l := by
  simp only [wf2, Bool.and_eq_true] at h
  have e : keyOf Tryd.prog 55 (mkS q) = (Tryd.prog.keyLits (Tryd.prog.types.size + 1) 55 [.int .i64 q.1, .int .i64 q.2]).map fun ls => .string (keyBytes ls) := by kernel_rfl
  have hz : Tryd.prog.types.size + 1 = (Tryd.prog.types.size - 1) + 2 := by
    have : 1 ≤ Tryd.prog.types.size := of_decide_eq_true (by kernel_rfl)
    omega
  rw [e, hz]
  generalize Tryd.prog.types.size - 1 = n
  have c1 : Tryd.prog.cellsOf 55 = 2 := by kernel_rfl
  have c3 : Tryd.prog.cellsOf 2 = 1 := by kernel_rfl
  simp [Program.keyLits, Tryd.underlying55, Tryd.underlying2, c1, c3]
  rw [show List.range 2 = [0, 1] from rfl]
  simp [h.1, h.2]
/-- What the map says of a list of squares. -/
def setS (l : List Q2) : Q2 → Option Bool := fun q => if q ∈ l then some true else none
theorem setS_mem {l : List Q2} {q : Q2} {x : Bool} (h : setS l q = some x) : q ∈ l := by
  unfold setS at h
  split at h
  · assumption
  · cases h
/-- In the loop: the list, and the map of the squares of the trips done. -/
structure SqS (w0 : World) (vl : Value) (ts : List Trip) (b : Nat) (done : List Q2) (w : World) : Prop where
  list : Kd.R k54 54 w w0.heap.size (fun _ => True) vl ts
  tab : TabM Tryd.prog 55 mkS Value.bool (setS done) w b
  below : Below w0.heap.size w0 w
  ge : w0.heap.size ≤ b
section
variable {w0 w w' : World} {vl : Value} {ts : List Trip} {b : Nat} {done : List Q2}
theorem SqS.step (h : Aside0 (SqS w0 vl ts b done w)) (hb : Below w.heap.size w w') : Aside0 (SqS w0 vl ts b done w') := ⟨Kd.R_below h.out.list hb, h.out.tab.below hb, below_then h.out.below h.out.below.size hb, h.out.ge⟩
theorem SqS.put (h : Aside0 (SqS w0 vl ts b done w)) (q : Q2) (ht : TabM Tryd.prog 55 mkS Value.bool (fun z => if z = q then some true else setS done z) w' b) (hg : w.grownBy w' (some b)) : Aside0 (SqS w0 vl ts b (q :: done) w') := by
  refine ⟨?_, TabM.same ht (fun z => ?_), grown_from h.out.below h.out.ge hg, h.out.ge⟩
  · refine Kd.R_mono (Kd.R_step (Kd.R_bound h.out.list) (fun k hk hlt => ?_)) (fun _ hk => hk.1)
    obtain ⟨_, _, _, q, _, cells, hc⟩ := hk
    exact hg.block k hlt (h.out.tab.ne hc)
  · unfold setS
    by_cases e : z = q
    · simp [e]
    · simp [e]
end
theorem reached1_calls (q : Q4) (b : Bool) (W : World) (h : neverP q = some b) : Calls Tryd.prog 32 (#[mkQ q] ++ #[]) W fun e w' => e = .returned (.bool b) ∧ Below W.heap.size W w' := by
  obtain ⟨c0, c1, c2, c3⟩ := q
  obtain rfl : false = b := Option.some.inj h
  rw [show (#[mkQ (c0, c1, c2, c3)] ++ #[] : Array Value) = #[.agg #[.int .i64 c0, .int .i64 c1, .int .i64 c2, .int .i64 c3]] from rfl]
  have hb := (new_car (w := W) (n0 := c0) (n1 := c1) (n2 := c2) (n3 := c3) rfl).1
  have hu := Tryd.underlying28
  go_enter Tryd.func32, Tryd.ntmps32
  go_wp2_with fail
  go_ret
  exact ⟨rfl, hb⟩
set_option linter.unusedSimpArgs false
set_option maxRecDepth 100000
set_option maxHeartbeats 40000000 in
theorem impl_SquaresReached.calls (k : Nat) (A0 : Option Addr) (c0 : Nat) (l0 : List ByteArray) (a1 : Int) (r1 r2 : Int) (w : World) (hr0 : Kd.C Kd.string w A0 l0.length l0) (hc0 : l0.length ≤ c0) (h : impl_SquaresReached.f k l0 a1 = some (r1, r2)) :
    Calls Tryd.prog 14 #[.slice A0 l0.length c0, .int .i64 a1] w fun e w' => e = .returned (.tuple #[.int .i64 r1, .int .i64 r2]) ∧ Below w.heap.size w w' := by
  unfold impl_SquaresReached.f at h
  obtain ⟨ist, hist, h⟩ := Option.bind_eq_some_iff.1 h
  obtain ⟨wi, hwi, h⟩ := Option.bind_eq_some_iff.1 h
  obtain ⟨code, hcode, h⟩ := Option.bind_eq_some_iff.1 h
  have HR := Aside0.mk hr0
  have HT := Aside0.mk hist
  have HW := Aside0.mk hwi
  obtain ⟨ys, hys⟩ : ∃ ys : List (S51), ys = [⟨ist, 1⟩, ⟨wi, 2⟩] := ⟨_, rfl⟩
  rw [← hys] at hcode
  have HF := Aside0.mk hcode
  have Ny := Aside0.mk hys
  clear hist hwi hcode hys hr0
  have hu := Tryd.underlying28
  have hut := Tryd.underlying54
  have huc := Tryd.underlying51
  have hup := Tryd.underlying55
  have hmm := @run_makeMap Tryd.prog
  go_enter Tryd.func14, Tryd.ntmps14
  by_cases cz : code = 0
  rotate_left
  · rw [if_neg cz] at h
    simp only [Option.some.injEq, Prod.mk.injEq] at h
    obtain ⟨rfl, rfl⟩ := h
    go_wp2_with (first
    | (go_at_call 29; refine (impl_IsTrack.calls A0 c0 l0 ist _ HR.out hc0 HT.out).mono ?_; rintro e w3 ⟨rfl, hb3⟩; have HB3 := Aside0.mk hb3)
    | (go_at_call 30; refine (impl_within.calls a1 0 20 wi _ HW.out).mono ?_; rintro e w4' ⟨rfl, nd4, rfl⟩; have HB4 : Aside0 (Below w.heap.size w (w3.drewN nd4)) := ⟨pw_below_drewN HB3.out _⟩; generalize w3.drewN nd4 = w4 at HB4 ⊢)
    | ((with_reducible refine gate_dst (N := 18) rfl ?_); refine Kd.R_lit k51 _ 51 ?hg (N := 18) ?hd (xs := ([(⟨ist, 1⟩ : S51), (⟨wi, 2⟩ : S51)] : List (S51))) (inner := [.bool ist, .int .i64 1, .bool wi, .int .i64 2]) (ok := fun _ => True) (okp := fun _ => True) ?hr ?hp (fun _ hk => hk) trivial (Below.refl _ _) (Nat.le_refl _) (by simp) ?_; (case hd => rfl); (case hg => rfl); (case hr => first | (go_simp; done) | (go_simp; rfl)); (case hp => exact (Reps.c2 (show Kd.M k51 _ _ _ (⟨ist, 1⟩ : S51) [.bool ist, .int .i64 1] from (k51_mkM _ _ _ (⟨ist, 1⟩ : S51) )) (Reps.c2 (show Kd.M k51 _ _ _ (⟨wi, 2⟩ : S51) [.bool wi, .int .i64 2] from (k51_mkM _ _ _ (⟨wi, 2⟩ : S51) )) (Reps.none _ _)))); intro v5 w5 ho5 hb5 hg_ hnew_; clear hg_ hnew_; rw [← Ny.out] at ho5; have HB5 := Aside0.mk (below_then HB4.out HB4.out.size hb5); have HO5 := Aside0.mk ho5; clear ho5 hb5; obtain ⟨Ao5, co5, eo5⟩ := Kd.R_slice HO5.out; subst eo5)
    | (go_at_call 28; refine (impl_first.calls k _ _ ys code _ (Kd.R_reads' HO5.out).2.2 (Kd.R_reads' HO5.out).2.1 HF.out).mono ?_; rintro e w6 ⟨rfl, hb6⟩; have HB6 := Aside0.mk (below_then HB5.out HB5.out.size hb6); clear hb6))
    go_ret2
    exact ⟨rfl, HB6.out⟩
  rw [if_pos cz] at h
  subst cz
  obtain ⟨⟨q0, q1, q2, q3⟩, hq, h⟩ := Option.bind_eq_some_iff.1 h
  split at h
  rotate_left
  · cases h
  rename_i hwf
  obtain ⟨⟨ts, i⟩, hz, h⟩ := Option.bind_eq_some_iff.1 h
  split at h
  rotate_left
  · cases h
  rename_i hts
  obtain ⟨hlen, hall⟩ := hts
  simp only [Option.some.injEq, Prod.mk.injEq] at h
  obtain ⟨rfl, rfl⟩ := h
  have HQ := Aside0.mk hq
  have HZ := Aside0.mk hz
  have HWF := Aside0.mk (wf4_wf hwf)
  have HALL := Aside0.mk hall
  clear hq hz hwf hall
  simp only at hlen
  go_wp2_with (first
    | (go_at_call 29; refine (impl_IsTrack.calls A0 c0 l0 ist _ HR.out hc0 HT.out).mono ?_; rintro e w3 ⟨rfl, hb3⟩; have HB3 := Aside0.mk hb3)
    | (go_at_call 30; refine (impl_within.calls a1 0 20 wi _ HW.out).mono ?_; rintro e w4' ⟨rfl, nd4, rfl⟩; have HB4 : Aside0 (Below w.heap.size w (w3.drewN nd4)) := ⟨pw_below_drewN HB3.out _⟩; generalize w3.drewN nd4 = w4 at HB4 ⊢)
    | ((with_reducible refine gate_dst (N := 18) rfl ?_); refine Kd.R_lit k51 _ 51 ?hg (N := 18) ?hd (xs := ([(⟨ist, 1⟩ : S51), (⟨wi, 2⟩ : S51)] : List (S51))) (inner := [.bool ist, .int .i64 1, .bool wi, .int .i64 2]) (ok := fun _ => True) (okp := fun _ => True) ?hr ?hp (fun _ hk => hk) trivial (Below.refl _ _) (Nat.le_refl _) (by simp) ?_; (case hd => rfl); (case hg => rfl); (case hr => first | (go_simp; done) | (go_simp; rfl)); (case hp => exact (Reps.c2 (show Kd.M k51 _ _ _ (⟨ist, 1⟩ : S51) [.bool ist, .int .i64 1] from (k51_mkM _ _ _ (⟨ist, 1⟩ : S51) )) (Reps.c2 (show Kd.M k51 _ _ _ (⟨wi, 2⟩ : S51) [.bool wi, .int .i64 2] from (k51_mkM _ _ _ (⟨wi, 2⟩ : S51) )) (Reps.none _ _)))); intro v5 w5 ho5 hb5 hg_ hnew_; clear hg_ hnew_; rw [← Ny.out] at ho5; have HB5 := Aside0.mk (below_then HB4.out HB4.out.size hb5); have HO5 := Aside0.mk ho5; clear ho5 hb5; obtain ⟨Ao5, co5, eo5⟩ := Kd.R_slice HO5.out; subst eo5)
    | (go_at_call 28; refine (impl_first.calls k _ _ ys 0 _ (Kd.R_reads' HO5.out).2.2 (Kd.R_reads' HO5.out).2.1 HF.out).mono ?_; rintro e w6 ⟨rfl, hb6⟩; have HB6 := Aside0.mk (below_then HB5.out HB5.out.size hb6); clear hb6)
    | (go_at_call 31; refine (impl_firstCar.calls A0 c0 l0 q0 q1 q2 q3 _ (Kd.C_below HR.out HB6.out) hc0 HQ.out).mono ?_; rintro e w7 ⟨rfl, hb7⟩; have HB7 := Aside0.mk (below_then HB6.out HB6.out.size hb7))
    | (go_at_call 23; refine (tour_calls 32 #[] (enters_of Tryd.func32 (by kernel_rfl) rfl) neverP k k A0 c0 l0 q0 q1 q2 q3 a1 ts i _ (fun q r W hq _ => reached1_calls q r W hq) (Kd.C_below HR.out HB7.out) hc0 HWF.out HZ.out).mono ?_; rintro e w8 ⟨v8, rfl, ho8, hb8⟩; have HB8 := Aside0.mk (below_then HB7.out HB7.out.size hb8); have HO8 := Aside0.mk (Kd.R_lower ho8 HB7.out.size); clear ho8 hb8; obtain ⟨A8, x8, rfl⟩ := Kd.R_slice HO8.out))
  have HS8 : Aside0 (SqS w (.slice A8 ts.length x8) ts w8.heap.size [] (w8.alloc (.map #[] 0))) := by
    have hb : Below w8.heap.size w8 (w8.alloc (.map #[] 0)) := (Below.refl _ _).alloc (Nat.le_refl _) _
    exact ⟨Kd.R_below HO8.out hb, TabM.same (TabM.made w8 _ _ _ _) (fun q => by simp [setS]), below_then HB8.out HB8.out.size hb, HB8.out.size⟩
  clear HB3 HB4 HB5 HO5 HB6 HB7 HQ HZ HT HW HF Ny HO8
  go_loopg [34] ts.length (fun gg v34 wr => ∃ j : Nat, v34 = .int .i64 j ∧ j ≤ ts.length ∧ ts.length - j ≤ gg ∧ Aside0 (SqS w (.slice A8 ts.length x8) ts w8.heap.size ((ts.take j).map sqT).reverse wr))
  case atStart => exact ⟨0, rfl, by omega, by omega, by simpa using HS8⟩
  case round =>
    clear HS8
    obtain ⟨j, rfl, hj, hgj, HS⟩ := hrel
    by_cases hlt : j < ts.length
    · have hltz : (j : Int) < (ts.length : Int) := by omega
      obtain ⟨ad, ead, x0, x1, x2, x3, x4, x5, x6⟩ := at_T54 (Kd.R_reads' HS.out.list).2.2 j (by omega) hltz
      cases ead
      have hrd : rd_T54 ts (j : Int) = ts[j] := by simp [rd_T54, List.getD_eq_getElem?_getD, hlt]
      have hwf : wf2 (sqT ts[j]) = true := List.all_eq_true.1 HALL.out _ (List.getElem_mem hlt)
      have htk : ((ts.take (j + 1)).map sqT).reverse = sqT ts[j] :: ((ts.take j).map sqT).reverse := by
        rw [List.take_succ_eq_append_getElem hlt, List.map_append, List.reverse_append]
        rfl
      simp only [Int.toNat_natCast] at x0 x1 x2 x3 x4 x5 x6
      rw [hrd] at x0 x1 x2 x3 x4 x5 x6
      generalize ts[j] = tv at x0 x1 x2 x3 x4 x5 x6 hwf htk
      clear hrd
      obtain ⟨hbt, hnt⟩ := new_tripT (w := wr) (tv := tv) rfl
      obtain ⟨y0, y1, y2, y3, y4, y5, y6⟩ := trip_cells hnt
      have HS2 := SqS.step HS hbt
      go_wp2_with (at_mapUpdate; refine wpList_mapUpdate_tab _ rfl _ _ _ 52 rfl 4 sqLaw Tryd.underlying52 mkS_inj ((ts.take j).map sqT).reverse (by rw [List.length_reverse, List.length_map, List.length_take]; unfold maxLen; omega) (fun a _ ha => setS_mem ha) rfl HS2.out.tab (sqT tv) true rfl rfl (sq_key _ hwf) ?_; intro w11 hm11 hg11)
      go_roundg (ts.length - (j + 1))
      case measure => omega
      case rel => exact ⟨j + 1, by go_num, by omega, by omega, by rw [htk]; exact SqS.put HS2 (sqT tv) hm11 hg11⟩
    · have hltz : ¬ (j : Int) < (ts.length : Int) := by omega
      have hl := HS.out.tab.len Tryd.underlying52 mkS_inj 3 (nubP (ts.map sqT)) (nubP_nodup _) (fun a => by
        rw [mem_nubP, List.take_of_length_le (by omega)]
        unfold setS
        constructor
        · intro ha; exact ⟨true, if_pos (by simpa using ha)⟩
        · rintro ⟨c, hc⟩
          split at hc
          · rename_i hm; simpa using hm
          · cases hc)
      go_wp2
      go_ret2
      exact ⟨rfl, HS.out.below⟩
end Go.Proofs.YtjblefcdihmdbaaDoor.Q
